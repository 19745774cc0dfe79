/- The walk of the law FnPowerTree, part 1: what each function that it reaches computes. -/
import Derived.Test.YtlgjakoeogpjlaaCFnPowerTree
namespace Go.Proofs.Ytlgjakoeogpjlaa
open Go.AL
set_option linter.unusedVariables false
set_option linter.unusedSimpArgs false
set_option maxRecDepth 100000
set_option maxHeartbeats 1000000
attribute [local irreducible] AS AI AIL OpR AC CW AWP ALoop LS LI LIL LThen LLoop LBlk LRet Lh AX OpV OpF

theorem nf {b : Bool} (h : (!b) = false) : b = true := by cases b <;> simp_all

theorem nt {b : Bool} (h : (!b) = true) : b = false := by cases b <;> simp_all

theorem in_ac (n lo hi : Int) (h : AH) : AC Try.prog 65 [.i .i64 n, .i .i64 lo, .i .i64 hi] h (fun v h' => v = .b (decide (lo ≤ n ∧ n ≤ hi)) ∧ h = h') := by
  refine e65 _ _ _ fun wf => ?_
  unfold c65
  repeat (first | refine AI_seqk fun K hK => ?_ | refine AI_reg ?_ | ((first | refine wmv rfl ?_ | refine wag rfl ?_ | refine war _ rfl rfl rfl (by omega) (by omega) ?_ | refine wbn rfl rfl rfl ?_ | refine wnt rfl ?_ | refine wex rfl rfl ?_ | refine wpt rfl (by first | assumption | with_reducible rfl) rfl ?_ | refine wpf rfl (by first | assumption | with_reducible rfl) rfl ?_ | refine wpb rfl rfl rfl ?_ | refine wmf rfl ?_ | refine wnc rfl ?_ | refine wbq Try.underlying4 rfl rfl _ (.inr ⟨rfl, rfl⟩) ?_ | refine wbq Try.underlying4 rfl rfl _ (.inl ⟨rfl, rfl⟩) ?_); try dsimp only [st, List.set_cons_zero, List.set_cons_succ]) | ((first | refine AS_nil ?_ | refine AI_skip ?_ | refine AI_exit ?_); try simp only [AThen, ABlk, reduceIte, reduceCtorEq]) | ((first | refine hK _ _ ?_ | ((first | clear hK K | clear IH hK K); refine hK _ _ ?_) | ((first | clear hK K | clear IH hK K); (first | clear hK K | clear IH hK K); refine hK _ _ ?_) | ((first | clear hK K | clear IH hK K); (first | clear hK K | clear IH hK K); (first | clear hK K | clear IH hK K); refine hK _ _ ?_)); try (first | clear hK K | clear IH hK K)) | refine AI_cond_t rfl (by first | assumption | with_reducible rfl) ?_ | refine AI_cond_f rfl (by first | assumption | with_reducible rfl) ?_ | refine AS_gy rfl (by first | assumption | with_reducible rfl) ?_ | refine AS_gtn rfl (by first | assumption | with_reducible rfl) ?_ | refine AS_gfn rfl (by first | assumption | with_reducible rfl) ?_ | refine AI_block (AI_loop ?_) | refine AI_block ?_ | refine AI_ret ⟨_, rfl, ?_⟩)
  (first | refine AS_gt rfl ?_ ?_ | refine AS_gf rfl ?_ ?_ | refine AI_cond rfl ?_ ?_) <;> intro hc <;> have hc' := hc <;> try simp only [decide_eq_true_eq, decide_eq_false_iff_not, Bool.not_eq_true', Bool.not_eq_false', Bool.not_eq_true, Bool.not_eq_false, beq_iff_eq, bne_iff_ne, beq_eq_false_iff_ne, bne_eq_false_iff_eq, Int.not_lt, Int.not_le, ge_iff_le, gt_iff_lt, not_and, ne_eq, Decidable.not_not] at hc'
  all_goals
    repeat (first | refine AI_seqk fun K hK => ?_ | refine AI_reg ?_ | ((first | refine wmv rfl ?_ | refine wag rfl ?_ | refine war _ rfl rfl rfl (by omega) (by omega) ?_ | refine wbn rfl rfl rfl ?_ | refine wnt rfl ?_ | refine wex rfl rfl ?_ | refine wpt rfl (by first | assumption | with_reducible rfl) rfl ?_ | refine wpf rfl (by first | assumption | with_reducible rfl) rfl ?_ | refine wpb rfl rfl rfl ?_ | refine wmf rfl ?_ | refine wnc rfl ?_ | refine wbq Try.underlying4 rfl rfl _ (.inr ⟨rfl, rfl⟩) ?_ | refine wbq Try.underlying4 rfl rfl _ (.inl ⟨rfl, rfl⟩) ?_); try dsimp only [st, List.set_cons_zero, List.set_cons_succ]) | ((first | refine AS_nil ?_ | refine AI_skip ?_ | refine AI_exit ?_); try simp only [AThen, ABlk, reduceIte, reduceCtorEq]) | ((first | refine hK _ _ ?_ | ((first | clear hK K | clear IH hK K); refine hK _ _ ?_) | ((first | clear hK K | clear IH hK K); (first | clear hK K | clear IH hK K); refine hK _ _ ?_) | ((first | clear hK K | clear IH hK K); (first | clear hK K | clear IH hK K); (first | clear hK K | clear IH hK K); refine hK _ _ ?_)); try (first | clear hK K | clear IH hK K)) | refine AI_cond_t rfl (by first | assumption | with_reducible rfl) ?_ | refine AI_cond_f rfl (by first | assumption | with_reducible rfl) ?_ | refine AS_gy rfl (by first | assumption | with_reducible rfl) ?_ | refine AS_gtn rfl (by first | assumption | with_reducible rfl) ?_ | refine AS_gfn rfl (by first | assumption | with_reducible rfl) ?_ | refine AI_block (AI_loop ?_) | refine AI_block ?_ | refine AI_ret ⟨_, rfl, ?_⟩)
  · exact ⟨by simp [hc', oneA], rfl⟩
  · exact ⟨by first | (simp [oneA, hc']; done) | (simp [oneA, hc']; omega), rfl⟩

theorem l1In_ac (n lo hi : Int) (h : AH) : AC Try.prog 62 [.i .i64 n, .i .i64 lo, .i .i64 hi] h (fun v h' => v = .b (decide (lo ≤ n ∧ n ≤ hi)) ∧ h = h') := by
  refine e62 _ _ _ fun wf => ?_
  unfold c62
  repeat (first | refine AI_seqk fun K hK => ?_ | refine AI_reg ?_ | ((first | refine wmv rfl ?_ | refine wag rfl ?_ | refine war _ rfl rfl rfl (by omega) (by omega) ?_ | refine wbn rfl rfl rfl ?_ | refine wnt rfl ?_ | refine wex rfl rfl ?_ | refine wpt rfl (by first | assumption | with_reducible rfl) rfl ?_ | refine wpf rfl (by first | assumption | with_reducible rfl) rfl ?_ | refine wpb rfl rfl rfl ?_ | refine wmf rfl ?_ | refine wnc rfl ?_ | refine wbq Try.underlying4 rfl rfl _ (.inr ⟨rfl, rfl⟩) ?_ | refine wbq Try.underlying4 rfl rfl _ (.inl ⟨rfl, rfl⟩) ?_); try dsimp only [st, List.set_cons_zero, List.set_cons_succ]) | ((first | refine AS_nil ?_ | refine AI_skip ?_ | refine AI_exit ?_); try simp only [AThen, ABlk, reduceIte, reduceCtorEq]) | ((first | refine hK _ _ ?_ | ((first | clear hK K | clear IH hK K); refine hK _ _ ?_) | ((first | clear hK K | clear IH hK K); (first | clear hK K | clear IH hK K); refine hK _ _ ?_) | ((first | clear hK K | clear IH hK K); (first | clear hK K | clear IH hK K); (first | clear hK K | clear IH hK K); refine hK _ _ ?_)); try (first | clear hK K | clear IH hK K)) | refine AI_cond_t rfl (by first | assumption | with_reducible rfl) ?_ | refine AI_cond_f rfl (by first | assumption | with_reducible rfl) ?_ | refine AS_gy rfl (by first | assumption | with_reducible rfl) ?_ | refine AS_gtn rfl (by first | assumption | with_reducible rfl) ?_ | refine AS_gfn rfl (by first | assumption | with_reducible rfl) ?_ | refine AI_block (AI_loop ?_) | refine AI_block ?_ | refine AI_ret ⟨_, rfl, ?_⟩)
  (first | refine AS_gt rfl ?_ ?_ | refine AS_gf rfl ?_ ?_ | refine AI_cond rfl ?_ ?_) <;> intro hc <;> have hc' := hc <;> try simp only [decide_eq_true_eq, decide_eq_false_iff_not, Bool.not_eq_true', Bool.not_eq_false', Bool.not_eq_true, Bool.not_eq_false, beq_iff_eq, bne_iff_ne, beq_eq_false_iff_ne, bne_eq_false_iff_eq, Int.not_lt, Int.not_le, ge_iff_le, gt_iff_lt, not_and, ne_eq, Decidable.not_not] at hc'
  all_goals
    repeat (first | refine AI_seqk fun K hK => ?_ | refine AI_reg ?_ | ((first | refine wmv rfl ?_ | refine wag rfl ?_ | refine war _ rfl rfl rfl (by omega) (by omega) ?_ | refine wbn rfl rfl rfl ?_ | refine wnt rfl ?_ | refine wex rfl rfl ?_ | refine wpt rfl (by first | assumption | with_reducible rfl) rfl ?_ | refine wpf rfl (by first | assumption | with_reducible rfl) rfl ?_ | refine wpb rfl rfl rfl ?_ | refine wmf rfl ?_ | refine wnc rfl ?_ | refine wbq Try.underlying4 rfl rfl _ (.inr ⟨rfl, rfl⟩) ?_ | refine wbq Try.underlying4 rfl rfl _ (.inl ⟨rfl, rfl⟩) ?_); try dsimp only [st, List.set_cons_zero, List.set_cons_succ]) | ((first | refine AS_nil ?_ | refine AI_skip ?_ | refine AI_exit ?_); try simp only [AThen, ABlk, reduceIte, reduceCtorEq]) | ((first | refine hK _ _ ?_ | ((first | clear hK K | clear IH hK K); refine hK _ _ ?_) | ((first | clear hK K | clear IH hK K); (first | clear hK K | clear IH hK K); refine hK _ _ ?_) | ((first | clear hK K | clear IH hK K); (first | clear hK K | clear IH hK K); (first | clear hK K | clear IH hK K); refine hK _ _ ?_)); try (first | clear hK K | clear IH hK K)) | refine AI_cond_t rfl (by first | assumption | with_reducible rfl) ?_ | refine AI_cond_f rfl (by first | assumption | with_reducible rfl) ?_ | refine AS_gy rfl (by first | assumption | with_reducible rfl) ?_ | refine AS_gtn rfl (by first | assumption | with_reducible rfl) ?_ | refine AS_gfn rfl (by first | assumption | with_reducible rfl) ?_ | refine AI_block (AI_loop ?_) | refine AI_block ?_ | refine AI_ret ⟨_, rfl, ?_⟩)
  · exact ⟨by simp [hc', oneA], rfl⟩
  · exact ⟨by first | (simp [oneA, hc']; done) | (simp [oneA, hc']; omega), rfl⟩

theorem drop_at {α : Type} {l : List α} {i : Int} (h0 : 0 ≤ i) (h1 : i < l.length) : ∃ y, l[i.toNat]? = some y ∧ y ∈ l ∧ l.drop i.toNat = y :: l.drop (i.toNat + 1) := by
  have hlt : i.toNat < l.length := by omega
  exact ⟨l[i.toNat], List.getElem?_eq_getElem hlt, List.getElem_mem hlt, List.drop_eq_getElem_cons hlt⟩

theorem toNat_succ {i : Int} (h0 : 0 ≤ i) : (i + 1).toNat = i.toNat + 1 := by omega

/-! ### The cursor that draws arguments: what it hands back, within bounds -/
def enU (n : Int) : List AV := [.i .u8 n]

theorem enU1 (x : Int) : (enU x).length = 1 := rfl

theorem and255 (x : Int) : 0 ≤ IntKind.i64.wrap (IntKind.u64.wrap (BitVec.ofInt IntKind.u64.bits x &&& BitVec.ofInt IntKind.u64.bits 255).toNat) ∧ IntKind.i64.wrap (IntKind.u64.wrap (BitVec.ofInt IntKind.u64.bits x &&& BitVec.ofInt IntKind.u64.bits 255).toNat) ≤ 255 := by
  have h : (BitVec.ofInt IntKind.u64.bits x &&& BitVec.ofInt IntKind.u64.bits 255).toNat ≤ 255 := by
    rw [BitVec.toNat_and]
    exact Nat.le_trans Nat.and_le_right (by decide)
  generalize (BitVec.ofInt IntKind.u64.bits x &&& BitVec.ofInt IntKind.u64.bits 255).toNat = k at *
  rw [IntWalk.u64_in _ (by omega), IntWalk.i64_in _ (by omega)]
  omega

theorem next_ac (bc : Nat) (cv : AV) (l : List Int) (ct sd : Int) (h0 h : AH) (L : List It) (HL : Loq h0 h (.pt bc [cv, .i .i64 ct, .i .u64 sd] :: L)) (hcv : RdG 1 enU h0 cv l) (hb : ∀ x ∈ l, 0 ≤ x ∧ x ≤ 255) (h1 : 0 ≤ ct) (h2 : ct ≤ 1099511627776) :
    AC Try.prog 93 [.p bc 0] h (fun r h' => ∃ M, (∃ x sd', r = .i .i64 x ∧ 0 ≤ x ∧ x ≤ 255 ∧ M = .pt bc [cv, .i .i64 (ct + 1), .i .u64 sd'] :: L) ∧ Loq h0 h' M) := by
  have hln := hcv.len
  refine e93 _ fun wf => ?_
  unfold c93
  refine LI_startL HL ?_
  refine W ?_
  refine dz93_0 ?_
  refine WX ?_
  refine W ?_
  refine LI_post (fun a M => ∃ (x : Int), (∃ r : Nat → AV, a = [.p bc 0, r 1, r 2, .i .i64 x, r 4, r 5, r 6, r 7, r 8, r 9, r 10, r 11, r 12, r 13, r 14, r 15, r 16, r 17, r 18, r 19, r 20, r 21, r 22, r 23, r 24, r 25, r 26, r 27, r 28, r 29, r 30, r 31, r 32, r 33, r 34, r 35, r 36, r 37, r 38, r 39, r 40, r 41, r 42, r 43, r 44, r 45, r 46, r 47, r 48, r 49, r 50, r 51, r 52, r 53, r 54, r 55, r 56, r 57, r 58, r 59, r 60, r 61]) ∧ M = .pt bc [cv, .i .i64 ct, .i .u64 sd] :: L ∧ 0 ≤ x ∧ x ≤ 255) ?_ ?_
  · (first | refine LS_gt rfl ?_ ?_ | refine LS_gf rfl ?_ ?_ | refine LI_cond rfl ?_ ?_) <;> intro hc <;> have hc' := hc <;> try simp only [decide_eq_true_eq, decide_eq_false_iff_not, Bool.not_eq_true', Bool.not_eq_false', Bool.not_eq_true, Bool.not_eq_false, beq_iff_eq, bne_iff_ne, beq_eq_false_iff_ne, bne_eq_false_iff_eq, Int.not_lt, Int.not_le, ge_iff_le, gt_iff_lt, not_and, ne_eq, Decidable.not_not] at hc'
    all_goals (try (dsimp only [st, setL, AV.cells, List.set_cons_zero, List.set_cons_succ, List.drop_zero, List.drop_succ_cons, List.take_zero, List.take_succ_cons, Nat.zero_add, Nat.add_zero, Nat.reduceAdd, List.cons_append, List.nil_append, List.eraseIdx_cons_zero, List.eraseIdx_cons_succ]))
    all_goals (refine W ?_)
    · obtain ⟨y, hy, hym, _⟩ := drop_at (l := l) h1 hc'
      have hyb := hb y hym
      have e : IntKind.i64.wrap y = y := IntWalk.i64_in _ (by omega)
      refine dz93_1 ?_
      refine WX ?_
      refine W ?_
      refine LX_ix (fun h' HL => hcv.le HL.le) enU1 hy h1 rfl rfl noG fun q1 o1 hrow1 => ?_
      try (dsimp only [st, setL, AV.cells, List.set_cons_zero, List.set_cons_succ, List.drop_zero, List.drop_succ_cons, List.take_zero, List.take_succ_cons, Nat.zero_add, Nat.add_zero, Nat.reduceAdd, List.cons_append, List.nil_append, List.eraseIdx_cons_zero, List.eraseIdx_cons_succ])
      refine WX ?_
      refine W ?_
      exact ⟨rfl, _, exJ rfl, rfl, by omega, by omega⟩
    · exact ⟨rfl, _, exJ rfl, rfl, by omega, by omega⟩
  · rintro _ _ ⟨x, ⟨r, rfl⟩, rfl, hx0, hx1⟩
    refine LThen_n ?_
    refine W ?_
    refine dz93_2 ?_
    refine WX ?_
    refine W ?_
    (first | refine LS_gt rfl ?_ ?_ | refine LS_gf rfl ?_ ?_ | refine LI_cond rfl ?_ ?_) <;> intro hc <;> have hc' := hc <;> try simp only [decide_eq_true_eq, decide_eq_false_iff_not, Bool.not_eq_true', Bool.not_eq_false', Bool.not_eq_true, Bool.not_eq_false, beq_iff_eq, bne_iff_ne, beq_eq_false_iff_ne, bne_eq_false_iff_eq, Int.not_lt, Int.not_le, ge_iff_le, gt_iff_lt, not_and, ne_eq, Decidable.not_not] at hc'
    all_goals (try (dsimp only [st, setL, AV.cells, List.set_cons_zero, List.set_cons_succ, List.drop_zero, List.drop_succ_cons, List.take_zero, List.take_succ_cons, Nat.zero_add, Nat.add_zero, Nat.reduceAdd, List.cons_append, List.nil_append, List.eraseIdx_cons_zero, List.eraseIdx_cons_succ]))
    all_goals (refine W ?_)
    · refine RET fun h' HL => ?_
      try dsimp only [oneA]
      exact ⟨_, ⟨x, _, rfl, hx0, hx1, rfl⟩, HL⟩
    · refine LS_v (OpV_shr rfl rfl (by omega)) ?_
      try (dsimp only [st, setL, AV.cells, List.set_cons_zero, List.set_cons_succ, List.drop_zero, List.drop_succ_cons, List.take_zero, List.take_succ_cons, Nat.zero_add, Nat.add_zero, Nat.reduceAdd, List.cons_append, List.nil_append, List.eraseIdx_cons_zero, List.eraseIdx_cons_succ])
      refine W ?_
      refine RET fun h' HL => ?_
      try dsimp only [oneA]
      exact ⟨_, ⟨_, _, rfl, (and255 _).1, (and255 _).2, rfl⟩, HL⟩

theorem pick_ac (n : Int) (bc : Nat) (cv : AV) (l : List Int) (ct sd : Int) (h0 h : AH) (L : List It) (HL : Loq h0 h (.pt bc [cv, .i .i64 ct, .i .u64 sd] :: L)) (hcv : RdG 1 enU h0 cv l) (hb : ∀ x ∈ l, 0 ≤ x ∧ x ≤ 255) (h1 : 0 ≤ ct) (h2 : ct ≤ 549755813888) :
    AC Try.prog 73 [.p bc 0, .i .i64 n] h (fun r h' => ∃ M, (∃ x ct' sd', r = .i .i64 x ∧ (0 ≤ x ∧ (x = 0 ∨ x < n)) ∧ (ct ≤ ct' ∧ ct' ≤ ct + 2) ∧ M = .pt bc [cv, .i .i64 ct', .i .u64 sd'] :: L) ∧ Loq h0 h' M) := by
  refine e73 _ _ fun wf => ?_
  unfold c73
  refine LI_startL HL ?_
  refine W ?_
  (first | refine LS_gt rfl ?_ ?_ | refine LS_gf rfl ?_ ?_ | refine LI_cond rfl ?_ ?_) <;> intro hc <;> have hc' := hc <;> try simp only [decide_eq_true_eq, decide_eq_false_iff_not, Bool.not_eq_true', Bool.not_eq_false', Bool.not_eq_true, Bool.not_eq_false, beq_iff_eq, bne_iff_ne, beq_eq_false_iff_ne, bne_eq_false_iff_eq, Int.not_lt, Int.not_le, ge_iff_le, gt_iff_lt, not_and, ne_eq, Decidable.not_not] at hc'
  all_goals (try (dsimp only [st, setL, AV.cells, List.set_cons_zero, List.set_cons_succ, List.drop_zero, List.drop_succ_cons, List.take_zero, List.take_succ_cons, Nat.zero_add, Nat.add_zero, Nat.reduceAdd, List.cons_append, List.nil_append, List.eraseIdx_cons_zero, List.eraseIdx_cons_succ]))
  all_goals (refine W ?_)
  · refine RET fun h' HL => ?_
    try dsimp only [oneA]
    exact ⟨_, ⟨0, ct, sd, rfl, ⟨by omega, .inl rfl⟩, by omega, rfl⟩, HL⟩
  · refine LS_cm (.refl _) (fun h' HL wf => next_ac bc cv l ct sd h0 h' L HL hcv hb h1 (by omega)) rfl rfl ?_
    try (dsimp only [st, setL, AV.cells, List.set_cons_zero, List.set_cons_succ, List.drop_zero, List.drop_succ_cons, List.take_zero, List.take_succ_cons, Nat.zero_add, Nat.add_zero, Nat.reduceAdd, List.cons_append, List.nil_append, List.eraseIdx_cons_zero, List.eraseIdx_cons_succ])
    refine W ?_
    rintro _ _ ⟨x, sd1, rfl, x0, x1, rfl⟩
    try (dsimp only [st, setL, AV.cells, List.set_cons_zero, List.set_cons_succ, List.drop_zero, List.drop_succ_cons, List.take_zero, List.take_succ_cons, Nat.zero_add, Nat.add_zero, Nat.reduceAdd, List.cons_append, List.nil_append, List.eraseIdx_cons_zero, List.eraseIdx_cons_succ])
    refine W ?_
    (first | refine LS_gt rfl ?_ ?_ | refine LS_gf rfl ?_ ?_ | refine LI_cond rfl ?_ ?_) <;> intro hc <;> have hc' := hc <;> try simp only [decide_eq_true_eq, decide_eq_false_iff_not, Bool.not_eq_true', Bool.not_eq_false', Bool.not_eq_true, Bool.not_eq_false, beq_iff_eq, bne_iff_ne, beq_eq_false_iff_ne, bne_eq_false_iff_eq, Int.not_lt, Int.not_le, ge_iff_le, gt_iff_lt, not_and, ne_eq, Decidable.not_not] at hc'
    all_goals (try (dsimp only [st, setL, AV.cells, List.set_cons_zero, List.set_cons_succ, List.drop_zero, List.drop_succ_cons, List.take_zero, List.take_succ_cons, Nat.zero_add, Nat.add_zero, Nat.reduceAdd, List.cons_append, List.nil_append, List.eraseIdx_cons_zero, List.eraseIdx_cons_succ]))
    all_goals (refine W ?_)
    · refine LS_cm (.refl _) (fun h' HL wf => next_ac bc cv l (ct + 1) sd1 h0 h' L HL hcv hb (by omega) (by omega)) rfl rfl ?_
      try (dsimp only [st, setL, AV.cells, List.set_cons_zero, List.set_cons_succ, List.drop_zero, List.drop_succ_cons, List.take_zero, List.take_succ_cons, Nat.zero_add, Nat.add_zero, Nat.reduceAdd, List.cons_append, List.nil_append, List.eraseIdx_cons_zero, List.eraseIdx_cons_succ])
      refine W ?_
      rintro _ _ ⟨y, sd2, rfl, y0, y1, rfl⟩
      try (dsimp only [st, setL, AV.cells, List.set_cons_zero, List.set_cons_succ, List.drop_zero, List.drop_succ_cons, List.take_zero, List.take_succ_cons, Nat.zero_add, Nat.add_zero, Nat.reduceAdd, List.cons_append, List.nil_append, List.eraseIdx_cons_zero, List.eraseIdx_cons_succ])
      refine W ?_
      refine LS_v (OpV_rem rfl rfl (by omega)) ?_
      try (dsimp only [st, setL, AV.cells, List.set_cons_zero, List.set_cons_succ, List.drop_zero, List.drop_succ_cons, List.take_zero, List.take_succ_cons, Nat.zero_add, Nat.add_zero, Nat.reduceAdd, List.cons_append, List.nil_append, List.eraseIdx_cons_zero, List.eraseIdx_cons_succ])
      refine W ?_
      have e := IntWalk.rem_in (x * 256 + y) n (by omega)
      have e1 := Int.emod_nonneg (x * 256 + y) (b := n) (by omega)
      have e2 := Int.emod_lt_of_pos (x * 256 + y) (b := n) (by omega)
      refine RET fun h' HL => ?_
      try dsimp only [oneA]
      exact ⟨_, ⟨_, ct + 1 + 1, _, rfl, by omega, by omega, rfl⟩, HL⟩
    · refine LS_v (OpV_rem rfl rfl (by omega)) ?_
      try (dsimp only [st, setL, AV.cells, List.set_cons_zero, List.set_cons_succ, List.drop_zero, List.drop_succ_cons, List.take_zero, List.take_succ_cons, Nat.zero_add, Nat.add_zero, Nat.reduceAdd, List.cons_append, List.nil_append, List.eraseIdx_cons_zero, List.eraseIdx_cons_succ])
      refine W ?_
      have e := IntWalk.rem_in x n (by omega)
      have e1 := Int.emod_nonneg x (b := n) (by omega)
      have e2 := Int.emod_lt_of_pos x (b := n) (by omega)
      refine RET fun h' HL => ?_
      try dsimp only [oneA]
      exact ⟨_, ⟨_, ct + 1, _, rfl, by omega, by omega, rfl⟩, HL⟩

theorem one_ac (n : Int) (bc : Nat) (cv : AV) (l : List Int) (ct sd : Int) (h0 h : AH) (L : List It) (HL : Loq h0 h (.pt bc [cv, .i .i64 ct, .i .u64 sd] :: L)) (hcv : RdG 1 enU h0 cv l) (hb : ∀ x ∈ l, 0 ≤ x ∧ x ≤ 255) (h1 : 0 ≤ ct) (h2 : ct ≤ 549755813888) :
    AC Try.prog 96 [.p bc 0, .i .i64 n] h (fun r h' => ∃ M, (∃ (x : Bool) (ct' sd' : Int), r = .b x ∧ True ∧ (ct ≤ ct' ∧ ct' ≤ ct + 2) ∧ M = .pt bc [cv, .i .i64 ct', .i .u64 sd'] :: L) ∧ Loq h0 h' M) := by
  refine e96 _ _ fun wf => ?_
  unfold c96
  refine LI_startL HL ?_
  refine W ?_
  refine LS_cm (.refl _) (fun h' HL wf => pick_ac n _ _ _ _ _ _ h' _ HL  hcv hb (by omega) (by omega)) rfl rfl ?_
  rintro _ _ ⟨x, ct1, sd1, rfl, hx, hct1, rfl⟩
  try (dsimp only [st, setL, AV.cells, List.set_cons_zero, List.set_cons_succ, List.drop_zero, List.drop_succ_cons, List.take_zero, List.take_succ_cons, Nat.zero_add, Nat.add_zero, Nat.reduceAdd, List.cons_append, List.nil_append, List.eraseIdx_cons_zero, List.eraseIdx_cons_succ])
  refine W ?_
  refine RET fun h' HL => ?_
  try dsimp only [oneA]
  exact ⟨_, ⟨_, ct1, sd1, rfl, trivial, hct1, rfl⟩, HL⟩

theorem among_ac (li : List Int) (w : AV) (bc : Nat) (cv : AV) (l : List Int) (ct sd : Int) (h0 h : AH) (L : List It) (HL : Loq h0 h (.pt bc [cv, .i .i64 ct, .i .u64 sd] :: L)) (hw : ∀ h', Loq h0 h' L → Rd h' w li) (hl : 0 < li.length) (hcv : RdG 1 enU h0 cv l) (hb : ∀ x ∈ l, 0 ≤ x ∧ x ≤ 255) (h1 : 0 ≤ ct) (h2 : ct ≤ 549755813888) :
    AC Try.prog 74 [.p bc 0, w] h (fun r h' => ∃ M, (∃ x ct' sd', r = .i .i64 x ∧ x ∈ li ∧ (ct ≤ ct' ∧ ct' ≤ ct + 2) ∧ M = .pt bc [cv, .i .i64 ct', .i .u64 sd'] :: L) ∧ Loq h0 h' M) := by
  have hln := (hw h HL.tail).len
  refine e74 _ _ fun wf => ?_
  unfold c74
  refine LI_startL HL ?_
  refine W ?_
  refine LS_cm (.refl _) (fun h' HL wf => pick_ac li.length _ _ _ _ _ _ h' _ HL  hcv hb (by omega) (by omega)) rfl rfl ?_
  rintro _ _ ⟨x, ct1, sd1, rfl, hx, hct1, rfl⟩
  try (dsimp only [st, setL, AV.cells, List.set_cons_zero, List.set_cons_succ, List.drop_zero, List.drop_succ_cons, List.take_zero, List.take_succ_cons, Nat.zero_add, Nat.add_zero, Nat.reduceAdd, List.cons_append, List.nil_append, List.eraseIdx_cons_zero, List.eraseIdx_cons_succ])
  refine W ?_
  obtain ⟨y, hy, hym, _⟩ := drop_at (l := li) hx.1 (by omega)
  refine LS_ix (fun h' HL => hw h' HL.tail) enI1 hy hx.1 rfl rfl fun q1 o1 hrow1 => ?_
  try (dsimp only [st, setL, AV.cells, List.set_cons_zero, List.set_cons_succ, List.drop_zero, List.drop_succ_cons, List.take_zero, List.take_succ_cons, Nat.zero_add, Nat.add_zero, Nat.reduceAdd, List.cons_append, List.nil_append, List.eraseIdx_cons_zero, List.eraseIdx_cons_succ])
  refine W ?_
  refine RET fun h' HL => ?_
  try dsimp only [oneA]
  exact ⟨_, ⟨y, ct1, sd1, rfl, hym, hct1, rfl⟩, HL⟩

/-! ### What the laws draw -/
theorem bytes_in {l : List Int} (h : ∀ n ∈ l, (Lit.int .u8 n).wf = true) : ∀ x ∈ l, 0 ≤ x ∧ x ≤ 255 := fun x hx => by
  have := h x hx
  simp [Lit.wf, IntKind.min, IntKind.max, IntKind.signed, IntKind.bits] at this
  omega

theorem big_ac (c1 c2 : List Int) (v1 v2 : AV) (h : AH) (hR1 : RdG 1 enU h v1 c1) (hR2 : RdG 1 enU h v2 c2) (hm1 : c1.length ≤ 9223372036854775807) (hm2 : c2.length ≤ 9223372036854775807) :
    AC Try.prog 31 [v1, v2] h (fun r h' => r = .b (decide ((c1.length : Int) > 1048576) || decide ((c2.length : Int) > 1048576 - c1.length)) ∧ h.le h') := by
  have l1 := hR1.len
  have l2 := hR2.len
  refine e31 _ _ fun wf => ?_
  unfold c31
  refine LI_start wf ?_
  refine W ?_
  (first | refine LS_gt rfl ?_ ?_ | refine LS_gf rfl ?_ ?_ | refine LI_cond rfl ?_ ?_) <;> intro hc <;> have hc' := hc <;> try simp only [decide_eq_true_eq, decide_eq_false_iff_not, Bool.not_eq_true', Bool.not_eq_false', Bool.not_eq_true, Bool.not_eq_false, beq_iff_eq, bne_iff_ne, beq_eq_false_iff_ne, bne_eq_false_iff_eq, Int.not_lt, Int.not_le, ge_iff_le, gt_iff_lt, not_and, ne_eq, Decidable.not_not] at hc'
  all_goals (try (dsimp only [st, setL, AV.cells, List.set_cons_zero, List.set_cons_succ, List.drop_zero, List.drop_succ_cons, List.take_zero, List.take_succ_cons, Nat.zero_add, Nat.add_zero, Nat.reduceAdd, List.cons_append, List.nil_append, List.eraseIdx_cons_zero, List.eraseIdx_cons_succ]))
  all_goals (refine W ?_)
  · refine RET fun h' HL => ?_
    try dsimp only [oneA]
    exact ⟨by rw [hc, Bool.false_or], HL.le⟩
  · refine RET fun h' HL => ?_
    try dsimp only [oneA]
    exact ⟨by rw [hc, Bool.true_or], HL.le⟩

theorem take_snoc {α : Type} {l : List α} {i : Nat} {y : α} (hy : l[i]? = some y) : l.take (i + 1) = l.take i ++ [y] := by rw [List.take_add_one, hy]; rfl

def ssI (v : AV) (us : List AV) (ll : List (List Int)) : List It := .sl v 1 (us.flatMap enV) :: (rowsI us ll ++ [])

theorem at_ {α : Type} {l : List α} {i : Nat} (h : i < l.length) : ∃ x, l[i]? = some x := ⟨_, List.getElem?_eq_getElem h⟩

structure PlP (h : AH) (b : Nat) (p : PlanM) (vs vo : AV) : Prop where
  row : h.row b 0 3 = some [.i .i64 p.n, vs, vo]
  steps : RdG 2 enStep h vs p.steps
  outs : Rd h vo p.outs

theorem PlP.le {h h' : AH} {b : Nat} {p : PlanM} {vs vo : AV} (H : PlP h b p vs vo) (hle : h.le h') : PlP h' b p vs vo := ⟨hle.row H.row, H.steps.le hle, H.outs.le hle⟩

theorem l1Has_ac (l : List Int) (v : AV) (x : Int) (h : AH) (hR : Rd h v l) (hl : l.length ≤ 4611686018427387904) : AC Try.prog 90 [v, .i .i64 x] h (fun r h' => r = .b (l.any fun y => y == x) ∧ h.le h') := by
  refine e90 _ _ fun wf => ?_
  unfold c90
  refine LI_start wf ?_
  refine W ?_
  refine LIL_ind (fun n a L => ∃ (i : Int), (∃ r : Nat → AV, a = [r 0, .i .i64 x, r 2, r 3, r 4, r 5, r 6, v, .i .i64 l.length, .i .i64 i, r 10, r 11, r 12, r 13, r 14, r 15, r 16]) ∧ L = [] ∧ 0 ≤ i ∧ i + n = l.length ∧ (l.any fun y => y == x) = ((l.drop i.toNat).any fun y => y == x))
    l.length ⟨0, exJ rfl, rfl, by omega, by omega, rfl⟩ ?_
  rintro n a L ⟨i, ⟨r, rfl⟩, rfl, h0, hn, heq⟩ IH
  refine W ?_
  (first | refine LS_gt rfl ?_ ?_ | refine LS_gf rfl ?_ ?_ | refine LI_cond rfl ?_ ?_) <;> intro hc <;> have hc' := hc <;> try simp only [decide_eq_true_eq, decide_eq_false_iff_not, Bool.not_eq_true', Bool.not_eq_false', Bool.not_eq_true, Bool.not_eq_false, beq_iff_eq, bne_iff_ne, beq_eq_false_iff_ne, bne_eq_false_iff_eq, Int.not_lt, Int.not_le, ge_iff_le, gt_iff_lt, not_and, ne_eq, Decidable.not_not] at hc'
  all_goals (try (dsimp only [st, setL, AV.cells, List.set_cons_zero, List.set_cons_succ, List.drop_zero, List.drop_succ_cons, List.take_zero, List.take_succ_cons, Nat.zero_add, Nat.add_zero, Nat.reduceAdd, List.cons_append, List.nil_append, List.eraseIdx_cons_zero, List.eraseIdx_cons_succ]))
  all_goals (refine W ?_)
  · obtain ⟨y, hy, hym, hd⟩ := drop_at h0 hc'
    rw [hd, List.any_cons] at heq
    refine LS_ix (fun h' HL => hR.le HL.le) enI1 hy h0 rfl rfl fun b o hrow => ?_
    try (dsimp only [st, setL, AV.cells, List.set_cons_zero, List.set_cons_succ, List.drop_zero, List.drop_succ_cons, List.take_zero, List.take_succ_cons, Nat.zero_add, Nat.add_zero, Nat.reduceAdd, List.cons_append, List.nil_append, List.eraseIdx_cons_zero, List.eraseIdx_cons_succ])
    refine W ?_
    (first | refine LS_gt rfl ?_ ?_ | refine LS_gf rfl ?_ ?_ | refine LI_cond rfl ?_ ?_) <;> intro hc <;> have hc' := hc <;> try simp only [decide_eq_true_eq, decide_eq_false_iff_not, Bool.not_eq_true', Bool.not_eq_false', Bool.not_eq_true, Bool.not_eq_false, beq_iff_eq, bne_iff_ne, beq_eq_false_iff_ne, bne_eq_false_iff_eq, Int.not_lt, Int.not_le, ge_iff_le, gt_iff_lt, not_and, ne_eq, Decidable.not_not] at hc'
    all_goals (try (dsimp only [st, setL, AV.cells, List.set_cons_zero, List.set_cons_succ, List.drop_zero, List.drop_succ_cons, List.take_zero, List.take_succ_cons, Nat.zero_add, Nat.add_zero, Nat.reduceAdd, List.cons_append, List.nil_append, List.eraseIdx_cons_zero, List.eraseIdx_cons_succ]))
    all_goals (refine W ?_)
    · rw [heq, hc]
      refine RET fun h' HL => ?_
      try dsimp only [oneA]
      exact ⟨rfl, HL.le⟩
    · refine IH (n - 1) _ _ (by omega) ⟨i + 1, exJ rfl, rfl, by omega, by omega, ?_⟩
      rw [heq, hc, Bool.false_or, toNat_succ h0]
  · rw [heq, List.drop_eq_nil_of_le (by omega)]
    refine RET fun h' HL => ?_
    try dsimp only [oneA]
    exact ⟨rfl, HL.le⟩

theorem loq_ns {h0 h : AH} {L : List It} (H : Loq h0 h L) (k : Nat) : Loq h0 h (.sl .ns k [] :: L) := H.cons (.inl ⟨rfl, rfl⟩) fun y hy => .sl fun b e => by cases e

/-- A list handed back, and whether. -/
def TupI (l : List Int) (ok : Bool) (r : AV) (M : List It) : Prop := ∃ w, r = .tup [w, .b ok] ∧ lenA w = some l.length ∧ w.sc = true ∧ M = [.sl w 1 (l.flatMap enI)]

theorem TupI.of {l : List Int} {ok : Bool} {h0 h : AH} {w : AV} (H : Own h0 1 enI h w l) : ∃ M, TupI l ok (.tup [w, .b ok]) M ∧ Loq h0 h M := ⟨_, ⟨w, rfl, H.rd.len, rd_sc H.rd, rfl⟩, H.loc enI1⟩

theorem TupI.none {h0 h : AH} {L : List It} (H : Loq h0 h L) : ∃ M, TupI [] false (.tup [.ns, .b false]) M ∧ Loq h0 h M := ⟨_, ⟨.ns, rfl, rfl, rfl, rfl⟩, loq_ns (H.sub (List.nil_sublist _)) 1⟩

/-! ### Numbers of paths -/
def pathS (n : Int) (x : Int) (U : List Int) (i : Nat) (s : Int × Int) : List Int := if n + i = x then U else U.set (n + i).toNat (U.getD s.1.toNat 0 + U.getD s.2.toNat 0)

/-- What is known of the numbers when some steps have been done. -/
structure PathI (p : PlanM) (x : Int) (i : Nat) (U : List Int) : Prop where
  len : U.length = (p.n + p.steps.length).toNat
  at_ : U.getD x.toNat 0 = 1
  lo : ∀ j : Nat, (j : Int) < x → U.getD j 0 = 0
  hi : ∀ j : Nat, p.n + i ≤ j → (j : Int) ≠ x → U.getD j 0 = 0
  bd : ∀ j : Nat, 0 ≤ U.getD j 0 ∧ U.getD j 0 ≤ 2 ^ i

theorem getD_set {U : List Int} {j k : Nat} {y : Int} (hk : k < U.length) : (U.set k y).getD j 0 = if k = j then y else U.getD j 0 := by
  simp only [List.getD, List.getElem?_set]
  split
  · rename_i e; subst e; simp [hk]
  · rfl

theorem PathI.next {p : PlanM} {x : Int} {i : Nat} {U : List Int} {s : Int × Int} (H : PathI p x i U) (hn : 1 ≤ p.n) (hx : 0 ≤ x) (hi : i < p.steps.length) (h1 : 0 ≤ s.1) (h2 : s.1 ≤ s.2) (h3 : s.2 < p.n + i) : PathI p x (i + 1) (pathS p.n x U i s) := by
  have hp : (2 : Int) ^ (i + 1) = 2 * 2 ^ i := by rw [Int.pow_succ]; omega
  have hpos : (0 : Int) ≤ 2 ^ i := Int.pow_nonneg (by omega)
  unfold pathS
  split
  · rename_i e
    refine ⟨H.len, H.at_, H.lo, fun j hj hx => H.hi j (by omega) hx, fun j => ?_⟩
    have := H.bd j
    rw [hp]
    omega
  · rename_i e
    have hk : (p.n + i).toNat < U.length := by rw [H.len]; omega
    have hb1 := H.bd s.1.toNat
    have hb2 := H.bd s.2.toNat
    refine ⟨by simp [H.len], ?_, ?_, ?_, ?_⟩
    · rw [getD_set hk, if_neg (by omega)]; exact H.at_
    · intro j hj
      rw [getD_set hk]
      split
      · rw [H.lo _ (by omega), H.lo _ (by omega)]; rfl
      · exact H.lo j hj
    · intro j hj hx
      rw [getD_set hk, if_neg (by omega)]
      exact H.hi j (by omega) hx
    · intro j
      rw [getD_set hk, hp]
      split
      · omega
      · have := H.bd j; omega

/-! ### Values that are used later -/
def putL : List Int → Int → List Int
  | [], n => [n]
  | x :: l, n => if x < n then x :: putL l n else if x = n then x :: l else n :: x :: l

theorem putL_len : ∀ (l : List Int) (n : Int), (putL l n).length ≤ l.length + 1
  | [], n => by simp [putL]
  | x :: l, n => by
    have := putL_len l n
    unfold putL
    split
    · simp only [List.length_cons]; omega
    · split <;> simp

theorem putL_at : ∀ (k : Nat) (l : List Int) (n : Int), (∀ x ∈ l.take k, x < n) → putL l n = l.take k ++ putL (l.drop k) n
  | 0, l, n, _ => by simp
  | k + 1, [], n, _ => by simp
  | k + 1, x :: l, n, h => by
    have h1 : x < n := h x (by simp)
    rw [List.take_succ_cons, List.drop_succ_cons, List.cons_append, ← putL_at k l n fun y hy => h y (by simp [hy])]
    simp [putL, h1]

theorem take_lt {l : List Int} {k : Nat} {y n : Int} (hy : l[k]? = some y) (h : ∀ x ∈ l.take k, x < n) (hyn : y < n) : ∀ x ∈ l.take (k + 1), x < n := by
  intro x hx
  rw [List.take_add_one, hy] at hx
  simp only [Option.toList_some, List.mem_append, List.mem_singleton] at hx
  rcases hx with hx | rfl
  · exact h x hx
  · exact hyn

theorem lit1 {v : AV} (h : v.cells = [v]) (hs : v.cells.all AV.sc = true) : litA 1 0 [(0, v)] = some [v] := by
  unfold litA
  rw [if_pos ⟨rfl, by rw [h]; rfl, hs⟩]
  simp [litA, h]

theorem isShort_ac (n : Int) (h : AH) : AC Try.prog 59 [.i .i64 n] h (fun v h' => v = .b (decide (1 ≤ n ∧ n ≤ 100)) ∧ h = h') := by
  refine e59 _ fun wf => ?_
  unfold c59
  repeat (first | refine AI_seqk fun K hK => ?_ | refine AI_reg ?_ | ((first | refine wmv rfl ?_ | refine wag rfl ?_ | refine war _ rfl rfl rfl (by omega) (by omega) ?_ | refine wbn rfl rfl rfl ?_ | refine wnt rfl ?_ | refine wex rfl rfl ?_ | refine wpt rfl (by first | assumption | with_reducible rfl) rfl ?_ | refine wpf rfl (by first | assumption | with_reducible rfl) rfl ?_ | refine wpb rfl rfl rfl ?_ | refine wmf rfl ?_ | refine wnc rfl ?_ | refine wbq Try.underlying4 rfl rfl _ (.inr ⟨rfl, rfl⟩) ?_ | refine wbq Try.underlying4 rfl rfl _ (.inl ⟨rfl, rfl⟩) ?_); try dsimp only [st, List.set_cons_zero, List.set_cons_succ]) | ((first | refine AS_nil ?_ | refine AI_skip ?_ | refine AI_exit ?_); try simp only [AThen, ABlk, reduceIte, reduceCtorEq]) | ((first | refine hK _ _ ?_ | ((first | clear hK K | clear IH hK K); refine hK _ _ ?_) | ((first | clear hK K | clear IH hK K); (first | clear hK K | clear IH hK K); refine hK _ _ ?_) | ((first | clear hK K | clear IH hK K); (first | clear hK K | clear IH hK K); (first | clear hK K | clear IH hK K); refine hK _ _ ?_)); try (first | clear hK K | clear IH hK K)) | refine AI_cond_t rfl (by first | assumption | with_reducible rfl) ?_ | refine AI_cond_f rfl (by first | assumption | with_reducible rfl) ?_ | refine AS_gy rfl (by first | assumption | with_reducible rfl) ?_ | refine AS_gtn rfl (by first | assumption | with_reducible rfl) ?_ | refine AS_gfn rfl (by first | assumption | with_reducible rfl) ?_ | refine AI_block (AI_loop ?_) | refine AI_block ?_ | refine AI_ret ⟨_, rfl, ?_⟩)
  refine AS_op (OpR_call rfl rfl (in_ac _ _ _ _) ?_)
  rintro _ _ wf1 ⟨rfl, rfl⟩
  try (dsimp only [st, setL, AV.cells, List.set_cons_zero, List.set_cons_succ, List.drop_zero, List.drop_succ_cons, List.take_zero, List.take_succ_cons, Nat.zero_add, Nat.add_zero, Nat.reduceAdd, List.cons_append, List.nil_append, List.eraseIdx_cons_zero, List.eraseIdx_cons_succ])
  repeat (first | refine AI_seqk fun K hK => ?_ | refine AI_reg ?_ | ((first | refine wmv rfl ?_ | refine wag rfl ?_ | refine war _ rfl rfl rfl (by omega) (by omega) ?_ | refine wbn rfl rfl rfl ?_ | refine wnt rfl ?_ | refine wex rfl rfl ?_ | refine wpt rfl (by first | assumption | with_reducible rfl) rfl ?_ | refine wpf rfl (by first | assumption | with_reducible rfl) rfl ?_ | refine wpb rfl rfl rfl ?_ | refine wmf rfl ?_ | refine wnc rfl ?_ | refine wbq Try.underlying4 rfl rfl _ (.inr ⟨rfl, rfl⟩) ?_ | refine wbq Try.underlying4 rfl rfl _ (.inl ⟨rfl, rfl⟩) ?_); try dsimp only [st, List.set_cons_zero, List.set_cons_succ]) | ((first | refine AS_nil ?_ | refine AI_skip ?_ | refine AI_exit ?_); try simp only [AThen, ABlk, reduceIte, reduceCtorEq]) | ((first | refine hK _ _ ?_ | ((first | clear hK K | clear IH hK K); refine hK _ _ ?_) | ((first | clear hK K | clear IH hK K); (first | clear hK K | clear IH hK K); refine hK _ _ ?_) | ((first | clear hK K | clear IH hK K); (first | clear hK K | clear IH hK K); (first | clear hK K | clear IH hK K); refine hK _ _ ?_)); try (first | clear hK K | clear IH hK K)) | refine AI_cond_t rfl (by first | assumption | with_reducible rfl) ?_ | refine AI_cond_f rfl (by first | assumption | with_reducible rfl) ?_ | refine AS_gy rfl (by first | assumption | with_reducible rfl) ?_ | refine AS_gtn rfl (by first | assumption | with_reducible rfl) ?_ | refine AS_gfn rfl (by first | assumption | with_reducible rfl) ?_ | refine AI_block (AI_loop ?_) | refine AI_block ?_ | refine AI_ret ⟨_, rfl, ?_⟩)
  exact ⟨rfl, rfl⟩

theorem shNumber_ac (n : Int) (h : AH) : AC Try.prog 56 [.i .i64 n] h (fun v h' => v = .b (decide (1 ≤ n ∧ n ≤ 100)) ∧ h = h') := by
  refine e56 _ fun wf => ?_
  unfold c56
  repeat (first | refine AI_seqk fun K hK => ?_ | refine AI_reg ?_ | ((first | refine wmv rfl ?_ | refine wag rfl ?_ | refine war _ rfl rfl rfl (by omega) (by omega) ?_ | refine wbn rfl rfl rfl ?_ | refine wnt rfl ?_ | refine wex rfl rfl ?_ | refine wpt rfl (by first | assumption | with_reducible rfl) rfl ?_ | refine wpf rfl (by first | assumption | with_reducible rfl) rfl ?_ | refine wpb rfl rfl rfl ?_ | refine wmf rfl ?_ | refine wnc rfl ?_ | refine wbq Try.underlying4 rfl rfl _ (.inr ⟨rfl, rfl⟩) ?_ | refine wbq Try.underlying4 rfl rfl _ (.inl ⟨rfl, rfl⟩) ?_); try dsimp only [st, List.set_cons_zero, List.set_cons_succ]) | ((first | refine AS_nil ?_ | refine AI_skip ?_ | refine AI_exit ?_); try simp only [AThen, ABlk, reduceIte, reduceCtorEq]) | ((first | refine hK _ _ ?_ | ((first | clear hK K | clear IH hK K); refine hK _ _ ?_) | ((first | clear hK K | clear IH hK K); (first | clear hK K | clear IH hK K); refine hK _ _ ?_) | ((first | clear hK K | clear IH hK K); (first | clear hK K | clear IH hK K); (first | clear hK K | clear IH hK K); refine hK _ _ ?_)); try (first | clear hK K | clear IH hK K)) | refine AI_cond_t rfl (by first | assumption | with_reducible rfl) ?_ | refine AI_cond_f rfl (by first | assumption | with_reducible rfl) ?_ | refine AS_gy rfl (by first | assumption | with_reducible rfl) ?_ | refine AS_gtn rfl (by first | assumption | with_reducible rfl) ?_ | refine AS_gfn rfl (by first | assumption | with_reducible rfl) ?_ | refine AI_block (AI_loop ?_) | refine AI_block ?_ | refine AI_ret ⟨_, rfl, ?_⟩)
  refine AS_op (OpR_call rfl rfl (l1In_ac _ _ _ _) ?_)
  rintro _ _ wf1 ⟨rfl, rfl⟩
  try (dsimp only [st, setL, AV.cells, List.set_cons_zero, List.set_cons_succ, List.drop_zero, List.drop_succ_cons, List.take_zero, List.take_succ_cons, Nat.zero_add, Nat.add_zero, Nat.reduceAdd, List.cons_append, List.nil_append, List.eraseIdx_cons_zero, List.eraseIdx_cons_succ])
  repeat (first | refine AI_seqk fun K hK => ?_ | refine AI_reg ?_ | ((first | refine wmv rfl ?_ | refine wag rfl ?_ | refine war _ rfl rfl rfl (by omega) (by omega) ?_ | refine wbn rfl rfl rfl ?_ | refine wnt rfl ?_ | refine wex rfl rfl ?_ | refine wpt rfl (by first | assumption | with_reducible rfl) rfl ?_ | refine wpf rfl (by first | assumption | with_reducible rfl) rfl ?_ | refine wpb rfl rfl rfl ?_ | refine wmf rfl ?_ | refine wnc rfl ?_ | refine wbq Try.underlying4 rfl rfl _ (.inr ⟨rfl, rfl⟩) ?_ | refine wbq Try.underlying4 rfl rfl _ (.inl ⟨rfl, rfl⟩) ?_); try dsimp only [st, List.set_cons_zero, List.set_cons_succ]) | ((first | refine AS_nil ?_ | refine AI_skip ?_ | refine AI_exit ?_); try simp only [AThen, ABlk, reduceIte, reduceCtorEq]) | ((first | refine hK _ _ ?_ | ((first | clear hK K | clear IH hK K); refine hK _ _ ?_) | ((first | clear hK K | clear IH hK K); (first | clear hK K | clear IH hK K); refine hK _ _ ?_) | ((first | clear hK K | clear IH hK K); (first | clear hK K | clear IH hK K); (first | clear hK K | clear IH hK K); refine hK _ _ ?_)); try (first | clear hK K | clear IH hK K)) | refine AI_cond_t rfl (by first | assumption | with_reducible rfl) ?_ | refine AI_cond_f rfl (by first | assumption | with_reducible rfl) ?_ | refine AS_gy rfl (by first | assumption | with_reducible rfl) ?_ | refine AS_gtn rfl (by first | assumption | with_reducible rfl) ?_ | refine AS_gfn rfl (by first | assumption | with_reducible rfl) ?_ | refine AI_block (AI_loop ?_) | refine AI_block ?_ | refine AI_ret ⟨_, rfl, ?_⟩)
  exact ⟨rfl, rfl⟩

/-! ### Plans that are run -/
theorem Clone_int_ac (l : List Int) (v : AV) (h : AH) (hR : RdG 1 enI h v l) (hl : l.length ≤ 1048576) :
    AC Try.prog 72 [v] h (fun r h' => Own h 1 enI h' r l) := by
  rcases hR.rd with rfl | ⟨b, o, c, rfl, g1, g2⟩
  · have hl0 : l = [] := by have := hR.len; simp [lenA] at this; exact List.length_eq_zero_iff.1 this.symm
    subst hl0
    refine e72 _ fun wf => ?_
    unfold c72
    refine LI_start wf ?_
    refine W ?_
    refine LS_snl rfl rfl true true (.inl ⟨rfl, rfl⟩) (.inl ⟨rfl, rfl⟩) ?_
    try (dsimp only [st, setL, AV.cells, List.set_cons_zero, List.set_cons_succ, List.drop_zero, List.drop_succ_cons, List.take_zero, List.take_succ_cons, Nat.zero_add, Nat.add_zero, Nat.reduceAdd, List.cons_append, List.nil_append, List.eraseIdx_cons_zero, List.eraseIdx_cons_succ])
    refine W ?_
    refine RET fun h' HL => ?_
    try dsimp only [oneA]
    exact Own.nil HL.wf0 HL.le HL.wf _ _
  · refine e72 _ fun wf => ?_
    unfold c72
    refine LI_start wf ?_
    refine W ?_
    refine LS_snl rfl rfl false false (.inr ⟨_, _, _, _, rfl, rfl⟩) (.inl ⟨rfl, rfl⟩) ?_
    try (dsimp only [st, setL, AV.cells, List.set_cons_zero, List.set_cons_succ, List.drop_zero, List.drop_succ_cons, List.take_zero, List.take_succ_cons, Nat.zero_add, Nat.add_zero, Nat.reduceAdd, List.cons_append, List.nil_append, List.eraseIdx_cons_zero, List.eraseIdx_cons_succ])
    refine W ?_
    refine LS_lt ([] : List Int) rfl rfl (by decide) rfl rfl rfl rfl enI1 rfl rfl fun w1 h1 s1 => ?_
    try (dsimp only [st, setL, AV.cells, List.set_cons_zero, List.set_cons_succ, List.drop_zero, List.drop_succ_cons, List.take_zero, List.take_succ_cons, Nat.zero_add, Nat.add_zero, Nat.reduceAdd, List.cons_append, List.nil_append, List.eraseIdx_cons_zero, List.eraseIdx_cons_succ])
    refine W ?_
    refine LS_ap0 0 rfl (fun h' HL => hR.le HL.le) enI1 (by decide) (by simp; omega) (by simp; omega) rfl rfl rfl fun w2 hw2 sw2 => ?_
    try (dsimp only [st, setL, AV.cells, List.set_cons_zero, List.set_cons_succ, List.drop_zero, List.drop_succ_cons, List.take_zero, List.take_succ_cons, Nat.zero_add, Nat.add_zero, Nat.reduceAdd, List.cons_append, List.nil_append, List.eraseIdx_cons_zero, List.eraseIdx_cons_succ])
    refine W ?_
    refine RET fun h' HL => ?_
    try dsimp only [oneA]
    exact HL.ownI 0 rfl enI1 (by decide)

theorem l1Own_ac (l : List Int) (v : AV) (h : AH) (hR : Rd h v l) (hl : l.length ≤ 1048576) :
    AC Try.prog 88 [v] h (fun r h' => Own h 1 enI h' r l) := by
  refine e88 _ fun wf => ?_
  unfold c88
  refine LI_start wf ?_
  refine W ?_
  refine LS_lt ([] : List Int) rfl rfl (by decide) rfl rfl rfl rfl enI1 rfl rfl fun w1 h1 s1 => ?_
  try (dsimp only [st, setL, AV.cells, List.set_cons_zero, List.set_cons_succ, List.drop_zero, List.drop_succ_cons, List.take_zero, List.take_succ_cons, Nat.zero_add, Nat.add_zero, Nat.reduceAdd, List.cons_append, List.nil_append, List.eraseIdx_cons_zero, List.eraseIdx_cons_succ])
  refine W ?_
  refine LS_ap0 0 rfl (fun h' HL => hR.le HL.le) enI1 (by decide) (by simp; omega) (by simp; omega) rfl rfl rfl fun w2 hw2 sw2 => ?_
  try (dsimp only [st, setL, AV.cells, List.set_cons_zero, List.set_cons_succ, List.drop_zero, List.drop_succ_cons, List.take_zero, List.take_succ_cons, Nat.zero_add, Nat.add_zero, Nat.reduceAdd, List.cons_append, List.nil_append, List.eraseIdx_cons_zero, List.eraseIdx_cons_succ])
  refine W ?_
  refine RET fun h' HL => ?_
  try dsimp only [oneA]
  exact HL.ownI 0 rfl enI1 (by decide)

def TupQ (l : List MatM) (ok : Bool) (r : AV) (M : List It) : Prop := ∃ w, r = .tup [w, .b ok] ∧ lenA w = some l.length ∧ w.sc = true ∧ M = [.sl w 4 (l.flatMap enMat)]

theorem TupQ.of {l : List MatM} {ok : Bool} {h0 h : AH} {w : AV} (H : Own h0 4 enMat h w l) : ∃ M, TupQ l ok (.tup [w, .b ok]) M ∧ Loq h0 h M := ⟨_, ⟨w, rfl, H.rd.len, rd_sc H.rd, rfl⟩, H.loc enMat4⟩

theorem TupQ.none {h0 h : AH} {L : List It} (H : Loq h0 h L) : ∃ M, TupQ [] false (.tup [.ns, .b false]) M ∧ Loq h0 h M := ⟨_, ⟨.ns, rfl, rfl, rfl, rfl⟩, loq_ns (H.sub (List.nil_sublist _)) 4⟩

def zeroP : AV := .agg [.i .i64 0, .ns, .ns]

/-- A plan handed back, and whether. -/
def TupP (q : PlanM) (ok : Bool) (r : AV) (M : List It) : Prop := ∃ ws wo, r = .tup [.agg [.i .i64 q.n, ws, wo], .b ok] ∧ lenA ws = some q.steps.length ∧ ws.sc = true ∧ lenA wo = some q.outs.length ∧ wo.sc = true ∧ M = [.sl ws 2 (q.steps.flatMap enStep), .sl wo 1 (q.outs.flatMap enI)]

theorem TupP.none {h0 h : AH} {L : List It} (H : Loq h0 h L) : ∃ M, TupP emptyPlan false (.tup [zeroP, .b false]) M ∧ Loq h0 h M := ⟨_, ⟨.ns, .ns, rfl, rfl, rfl, rfl, rfl, rfl⟩, loq_ns (loq_ns (H.sub (List.nil_sublist _)) 1) 2⟩

def TupPP (q1 q2 : PlanM) (ok : Bool) (r : AV) (M : List It) : Prop := ∃ ws wo xs xo, r = .tup [.agg [.i .i64 q1.n, ws, wo], .agg [.i .i64 q2.n, xs, xo], .b ok] ∧ (lenA ws = some q1.steps.length ∧ ws.sc = true ∧ lenA wo = some q1.outs.length ∧ wo.sc = true) ∧ (lenA xs = some q2.steps.length ∧ xs.sc = true ∧ lenA xo = some q2.outs.length ∧ xo.sc = true) ∧ M = [.sl ws 2 (q1.steps.flatMap enStep), .sl wo 1 (q1.outs.flatMap enI), .sl xs 2 (q2.steps.flatMap enStep), .sl xo 1 (q2.outs.flatMap enI)]

theorem TupPP.none {h0 h : AH} {L : List It} (H : Loq h0 h L) : ∃ M, TupPP emptyPlan emptyPlan false (.tup [zeroP, zeroP, .b false]) M ∧ Loq h0 h M := ⟨_, ⟨.ns, .ns, .ns, .ns, rfl, ⟨rfl, rfl, rfl, rfl⟩, ⟨rfl, rfl, rfl, rfl⟩, rfl⟩, loq_ns (loq_ns (loq_ns (loq_ns (H.sub (List.nil_sublist _)) 1) 2) 1) 2⟩

theorem rSame_ac (l : List Int) (v u : AV) (h : AH) (hv : Rd h v l) (hu : Rd h u l) (hl : l.length ≤ 4611686018427387904) :
    AC Try.prog 38 [v, u] h (fun r h' => r = .b true ∧ h.le h') := by
  have hvl := hv.len
  have hul := hu.len
  refine e38 _ _ fun wf => ?_
  unfold c38
  refine LI_start wf ?_
  refine W ?_
  first | (refine LS_gtnH rfl (by simp) ?_; intro hg; try (dsimp only [st, setL, AV.cells, List.set_cons_zero, List.set_cons_succ, List.drop_zero, List.drop_succ_cons, List.take_zero, List.take_succ_cons, Nat.zero_add, Nat.add_zero, Nat.reduceAdd, List.cons_append, List.nil_append, List.eraseIdx_cons_zero, List.eraseIdx_cons_succ])) | (refine LS_gfnH rfl (by simp) ?_; intro hg; try (dsimp only [st, setL, AV.cells, List.set_cons_zero, List.set_cons_succ, List.drop_zero, List.drop_succ_cons, List.take_zero, List.take_succ_cons, Nat.zero_add, Nat.add_zero, Nat.reduceAdd, List.cons_append, List.nil_append, List.eraseIdx_cons_zero, List.eraseIdx_cons_succ])) | (refine LI_cond_fH rfl (by simp) ?_; intro hg)
  refine W ?_
  refine LIL_ind (fun k a L => ∃ (i : Int), (∃ r : Nat → AV, a = [v, u, r 2, r 3, .b false, r 5, r 6, r 7, r 8, r 9, r 10, r 11, .i .i64 l.length, .i .i64 i, r 14, r 15, r 16, r 17, r 18, r 19, r 20, r 21, r 22, r 23, r 24, r 25]) ∧ L = [] ∧ 0 ≤ i ∧ i + k = l.length)
    l.length ⟨0, exJ rfl, rfl, by omega, by omega⟩ ?_
  rintro k a L ⟨i, ⟨r, rfl⟩, rfl, h0, hk⟩ IH
  refine W ?_
  (first | refine LS_gt rfl ?_ ?_ | refine LS_gf rfl ?_ ?_ | refine LI_cond rfl ?_ ?_) <;> intro hc <;> have hc' := hc <;> try simp only [decide_eq_true_eq, decide_eq_false_iff_not, Bool.not_eq_true', Bool.not_eq_false', Bool.not_eq_true, Bool.not_eq_false, beq_iff_eq, bne_iff_ne, beq_eq_false_iff_ne, bne_eq_false_iff_eq, Int.not_lt, Int.not_le, ge_iff_le, gt_iff_lt, not_and, ne_eq, Decidable.not_not] at hc'
  all_goals (try (dsimp only [st, setL, AV.cells, List.set_cons_zero, List.set_cons_succ, List.drop_zero, List.drop_succ_cons, List.take_zero, List.take_succ_cons, Nat.zero_add, Nat.add_zero, Nat.reduceAdd, List.cons_append, List.nil_append, List.eraseIdx_cons_zero, List.eraseIdx_cons_succ]))
  all_goals (refine W ?_)
  · obtain ⟨y, hy, hym, _⟩ := drop_at (l := l) h0 hc'
    refine dz38_0 ?_
    refine WX ?_
    refine W ?_
    refine LX_ix (fun h' HL => hv.le HL.le) enI1 hy h0 rfl rfl noG fun q1 o1 hrow1 => ?_
    try (dsimp only [st, setL, AV.cells, List.set_cons_zero, List.set_cons_succ, List.drop_zero, List.drop_succ_cons, List.take_zero, List.take_succ_cons, Nat.zero_add, Nat.add_zero, Nat.reduceAdd, List.cons_append, List.nil_append, List.eraseIdx_cons_zero, List.eraseIdx_cons_succ])
    refine WX ?_
    refine W ?_
    refine LX_ix (fun h' HL => hu.le HL.le) enI1 hy h0 rfl rfl noG fun q2 o2 hrow2 => ?_
    try (dsimp only [st, setL, AV.cells, List.set_cons_zero, List.set_cons_succ, List.drop_zero, List.drop_succ_cons, List.take_zero, List.take_succ_cons, Nat.zero_add, Nat.add_zero, Nat.reduceAdd, List.cons_append, List.nil_append, List.eraseIdx_cons_zero, List.eraseIdx_cons_succ])
    refine WX ?_
    refine W ?_
    first | (refine LS_gtnH rfl (by simp) ?_; intro hg; try (dsimp only [st, setL, AV.cells, List.set_cons_zero, List.set_cons_succ, List.drop_zero, List.drop_succ_cons, List.take_zero, List.take_succ_cons, Nat.zero_add, Nat.add_zero, Nat.reduceAdd, List.cons_append, List.nil_append, List.eraseIdx_cons_zero, List.eraseIdx_cons_succ])) | (refine LS_gfnH rfl (by simp) ?_; intro hg; try (dsimp only [st, setL, AV.cells, List.set_cons_zero, List.set_cons_succ, List.drop_zero, List.drop_succ_cons, List.take_zero, List.take_succ_cons, Nat.zero_add, Nat.add_zero, Nat.reduceAdd, List.cons_append, List.nil_append, List.eraseIdx_cons_zero, List.eraseIdx_cons_succ])) | (refine LI_cond_fH rfl (by simp) ?_; intro hg)
    refine W ?_
    refine IH (k - 1) _ _ (by omega) ⟨i + 1, exJ rfl, rfl, by omega, by omega⟩
  · refine RET fun h' HL => ?_
    try dsimp only [oneA]
    exact ⟨rfl, HL.le⟩

/-! ### Star chains: plain laws -/
def lastD (c : List Int) : Int := c.getLastD 0

/-! ### The power tree: plain laws -/
def putN (n : Int) : List Int → List Int
  | [] => [n]
  | x :: l => if x < n then x :: putN n l else if x = n then x :: l else n :: x :: l

/-- The reference's tree: a level of paths, and all numbers. -/
def growA (path : List Int) (s : List (List Int) × List Int) (x : Int) : List (List Int) × List Int :=
  if (lastD path + x) ∈ s.2 then s else (s.1 ++ [path ++ [lastD path + x]], putN (lastD path + x) s.2)

def growT (s : List (List Int) × List Int) : List (List Int) × List Int := s.1.foldl (fun s path => path.foldl (growA path) s) ([], s.2)

def treeS : Nat → List (List Int) × List Int
  | 0 => ([[1]], [1])
  | k + 1 => growT (treeS k)

/-- The program's: ways to numbers, and levels of numbers. -/
def wayA (most m : Int) (way : List Int) (s : List Int × List (Int × List Int)) (x : Int) : List Int × List (Int × List Int) :=
  if m + x ≤ most ∧ (s.2.find? fun e => e.1 == m + x) = none then (s.1 ++ [m + x], s.2 ++ [(m + x, way ++ [m + x])]) else s

def wayOf (ws : List (Int × List Int)) (m : Int) : List Int := ((ws.find? fun e => e.1 == m).map (·.2)).getD []

def wayT (most : Int) (lv : List Int) (ws : List (Int × List Int)) : List Int × List (Int × List Int) := lv.foldl (fun s m => (wayOf s.2 m).foldl (wayA most m (wayOf s.2 m)) s) ([], ws)

/-- All ways up to 256, level by level. -/
def treeW : List (Int × List Int) := [(1, [1]), (2, [1, 2]), (3, [1, 2, 3]), (4, [1, 2, 4]), (5, [1, 2, 3, 5]), (6, [1, 2, 3, 6]), (8, [1, 2, 4, 8]), (7, [1, 2, 3, 5, 7]), (10, [1, 2, 3, 5, 10]), (9, [1, 2, 3, 6, 9]), (12, [1, 2, 3, 6, 12]), (16, [1, 2, 4, 8, 16]), (14, [1, 2, 3, 5, 7, 14]), (11, [1, 2, 3, 5, 10, 11]), (13, [1, 2, 3, 5, 10, 13]), (15, [1, 2, 3, 5, 10, 15]), (20, [1, 2, 3, 5, 10, 20]), (18, [1, 2, 3, 6, 9, 18]), (24, [1, 2, 3, 6, 12, 24]), (17, [1, 2, 4, 8, 16, 17]), (32, [1, 2, 4, 8, 16, 32]), (19, [1, 2, 3, 5, 7, 14, 19]), (21, [1, 2, 3, 5, 7, 14, 21]), (28, [1, 2, 3, 5, 7, 14, 28]), (22, [1, 2, 3, 5, 10, 11, 22]), (23, [1, 2, 3, 5, 10, 13, 23]), (26, [1, 2, 3, 5, 10, 13, 26]), (25, [1, 2, 3, 5, 10, 15, 25]), (30, [1, 2, 3, 5, 10, 15, 30]), (40, [1, 2, 3, 5, 10, 20, 40]), (27, [1, 2, 3, 6, 9, 18, 27]), (36, [1, 2, 3, 6, 9, 18, 36]), (48, [1, 2, 3, 6, 12, 24, 48]), (33, [1, 2, 4, 8, 16, 17, 33]), (34, [1, 2, 4, 8, 16, 17, 34]), (64, [1, 2, 4, 8, 16, 32, 64]), (38, [1, 2, 3, 5, 7, 14, 19, 38]), (35, [1, 2, 3, 5, 7, 14, 21, 35]), (42, [1, 2, 3, 5, 7, 14, 21, 42]), (29, [1, 2, 3, 5, 7, 14, 28, 29]), (31, [1, 2, 3, 5, 7, 14, 28, 31]), (56, [1, 2, 3, 5, 7, 14, 28, 56]), (44, [1, 2, 3, 5, 10, 11, 22, 44]), (46, [1, 2, 3, 5, 10, 13, 23, 46]), (39, [1, 2, 3, 5, 10, 13, 26, 39]), (52, [1, 2, 3, 5, 10, 13, 26, 52]), (50, [1, 2, 3, 5, 10, 15, 25, 50]), (45, [1, 2, 3, 5, 10, 15, 30, 45]), (60, [1, 2, 3, 5, 10, 15, 30, 60]), (41, [1, 2, 3, 5, 10, 20, 40, 41]), (43, [1, 2, 3, 5, 10, 20, 40, 43]), (80, [1, 2, 3, 5, 10, 20, 40, 80]), (54, [1, 2, 3, 6, 9, 18, 27, 54]), (37, [1, 2, 3, 6, 9, 18, 36, 37]), (72, [1, 2, 3, 6, 9, 18, 36, 72]), (49, [1, 2, 3, 6, 12, 24, 48, 49]), (51, [1, 2, 3, 6, 12, 24, 48, 51]), (96, [1, 2, 3, 6, 12, 24, 48, 96]), (66, [1, 2, 4, 8, 16, 17, 33, 66]), (68, [1, 2, 4, 8, 16, 17, 34, 68]), (65, [1, 2, 4, 8, 16, 32, 64, 65]), (128, [1, 2, 4, 8, 16, 32, 64, 128]), (57, [1, 2, 3, 5, 7, 14, 19, 38, 57]), (76, [1, 2, 3, 5, 7, 14, 19, 38, 76]), (70, [1, 2, 3, 5, 7, 14, 21, 35, 70]), (47, [1, 2, 3, 5, 7, 14, 21, 42, 47]), (63, [1, 2, 3, 5, 7, 14, 21, 42, 63]), (84, [1, 2, 3, 5, 7, 14, 21, 42, 84]), (58, [1, 2, 3, 5, 7, 14, 28, 29, 58]), (59, [1, 2, 3, 5, 7, 14, 28, 31, 59]), (62, [1, 2, 3, 5, 7, 14, 28, 31, 62]), (61, [1, 2, 3, 5, 7, 14, 28, 56, 61]), (112, [1, 2, 3, 5, 7, 14, 28, 56, 112]), (55, [1, 2, 3, 5, 10, 11, 22, 44, 55]), (88, [1, 2, 3, 5, 10, 11, 22, 44, 88]), (69, [1, 2, 3, 5, 10, 13, 23, 46, 69]), (92, [1, 2, 3, 5, 10, 13, 23, 46, 92]), (78, [1, 2, 3, 5, 10, 13, 26, 39, 78]), (53, [1, 2, 3, 5, 10, 13, 26, 52, 53]), (104, [1, 2, 3, 5, 10, 13, 26, 52, 104]), (75, [1, 2, 3, 5, 10, 15, 25, 50, 75]), (100, [1, 2, 3, 5, 10, 15, 25, 50, 100]), (90, [1, 2, 3, 5, 10, 15, 30, 45, 90]), (120, [1, 2, 3, 5, 10, 15, 30, 60, 120]), (81, [1, 2, 3, 5, 10, 20, 40, 41, 81]), (82, [1, 2, 3, 5, 10, 20, 40, 41, 82]), (83, [1, 2, 3, 5, 10, 20, 40, 43, 83]), (86, [1, 2, 3, 5, 10, 20, 40, 43, 86]), (85, [1, 2, 3, 5, 10, 20, 40, 80, 85]), (160, [1, 2, 3, 5, 10, 20, 40, 80, 160]), (108, [1, 2, 3, 6, 9, 18, 27, 54, 108]), (73, [1, 2, 3, 6, 9, 18, 36, 37, 73]), (74, [1, 2, 3, 6, 9, 18, 36, 37, 74]), (144, [1, 2, 3, 6, 9, 18, 36, 72, 144]), (97, [1, 2, 3, 6, 12, 24, 48, 49, 97]), (98, [1, 2, 3, 6, 12, 24, 48, 49, 98]), (99, [1, 2, 3, 6, 12, 24, 48, 51, 99]), (102, [1, 2, 3, 6, 12, 24, 48, 51, 102]), (192, [1, 2, 3, 6, 12, 24, 48, 96, 192]), (67, [1, 2, 4, 8, 16, 17, 33, 66, 67]), (132, [1, 2, 4, 8, 16, 17, 33, 66, 132]), (136, [1, 2, 4, 8, 16, 17, 34, 68, 136]), (129, [1, 2, 4, 8, 16, 32, 64, 65, 129]), (130, [1, 2, 4, 8, 16, 32, 64, 65, 130]), (256, [1, 2, 4, 8, 16, 32, 64, 128, 256]), (71, [1, 2, 3, 5, 7, 14, 19, 38, 57, 71]), (95, [1, 2, 3, 5, 7, 14, 19, 38, 57, 95]), (114, [1, 2, 3, 5, 7, 14, 19, 38, 57, 114]), (77, [1, 2, 3, 5, 7, 14, 19, 38, 76, 77]), (79, [1, 2, 3, 5, 7, 14, 19, 38, 76, 79]), (152, [1, 2, 3, 5, 7, 14, 19, 38, 76, 152]), (91, [1, 2, 3, 5, 7, 14, 21, 35, 70, 91]), (105, [1, 2, 3, 5, 7, 14, 21, 35, 70, 105]), (140, [1, 2, 3, 5, 7, 14, 21, 35, 70, 140]), (89, [1, 2, 3, 5, 7, 14, 21, 42, 47, 89]), (94, [1, 2, 3, 5, 7, 14, 21, 42, 47, 94]), (126, [1, 2, 3, 5, 7, 14, 21, 42, 63, 126]), (87, [1, 2, 3, 5, 7, 14, 21, 42, 84, 87]), (168, [1, 2, 3, 5, 7, 14, 21, 42, 84, 168]), (116, [1, 2, 3, 5, 7, 14, 28, 29, 58, 116]), (118, [1, 2, 3, 5, 7, 14, 28, 31, 59, 118]), (93, [1, 2, 3, 5, 7, 14, 28, 31, 62, 93]), (124, [1, 2, 3, 5, 7, 14, 28, 31, 62, 124]), (117, [1, 2, 3, 5, 7, 14, 28, 56, 61, 117]), (122, [1, 2, 3, 5, 7, 14, 28, 56, 61, 122]), (113, [1, 2, 3, 5, 7, 14, 28, 56, 112, 113]), (115, [1, 2, 3, 5, 7, 14, 28, 56, 112, 115]), (119, [1, 2, 3, 5, 7, 14, 28, 56, 112, 119]), (224, [1, 2, 3, 5, 7, 14, 28, 56, 112, 224]), (110, [1, 2, 3, 5, 10, 11, 22, 44, 55, 110]), (176, [1, 2, 3, 5, 10, 11, 22, 44, 88, 176]), (138, [1, 2, 3, 5, 10, 13, 23, 46, 69, 138]), (184, [1, 2, 3, 5, 10, 13, 23, 46, 92, 184]), (156, [1, 2, 3, 5, 10, 13, 26, 39, 78, 156]), (106, [1, 2, 3, 5, 10, 13, 26, 52, 53, 106]), (107, [1, 2, 3, 5, 10, 13, 26, 52, 104, 107]), (109, [1, 2, 3, 5, 10, 13, 26, 52, 104, 109]), (208, [1, 2, 3, 5, 10, 13, 26, 52, 104, 208]), (125, [1, 2, 3, 5, 10, 15, 25, 50, 75, 125]), (150, [1, 2, 3, 5, 10, 15, 25, 50, 75, 150]), (101, [1, 2, 3, 5, 10, 15, 25, 50, 100, 101]), (103, [1, 2, 3, 5, 10, 15, 25, 50, 100, 103]), (200, [1, 2, 3, 5, 10, 15, 25, 50, 100, 200]), (135, [1, 2, 3, 5, 10, 15, 30, 45, 90, 135]), (180, [1, 2, 3, 5, 10, 15, 30, 45, 90, 180]), (121, [1, 2, 3, 5, 10, 15, 30, 60, 120, 121]), (123, [1, 2, 3, 5, 10, 15, 30, 60, 120, 123]), (240, [1, 2, 3, 5, 10, 15, 30, 60, 120, 240]), (162, [1, 2, 3, 5, 10, 20, 40, 41, 81, 162]), (164, [1, 2, 3, 5, 10, 20, 40, 41, 82, 164]), (166, [1, 2, 3, 5, 10, 20, 40, 43, 83, 166]), (172, [1, 2, 3, 5, 10, 20, 40, 43, 86, 172]), (165, [1, 2, 3, 5, 10, 20, 40, 80, 85, 165]), (170, [1, 2, 3, 5, 10, 20, 40, 80, 85, 170]), (161, [1, 2, 3, 5, 10, 20, 40, 80, 160, 161]), (163, [1, 2, 3, 5, 10, 20, 40, 80, 160, 163]), (111, [1, 2, 3, 6, 9, 18, 27, 54, 108, 111]), (216, [1, 2, 3, 6, 9, 18, 27, 54, 108, 216]), (146, [1, 2, 3, 6, 9, 18, 36, 37, 73, 146]), (148, [1, 2, 3, 6, 9, 18, 36, 37, 74, 148]), (145, [1, 2, 3, 6, 9, 18, 36, 72, 144, 145]), (147, [1, 2, 3, 6, 9, 18, 36, 72, 144, 147]), (153, [1, 2, 3, 6, 9, 18, 36, 72, 144, 153]), (194, [1, 2, 3, 6, 12, 24, 48, 49, 97, 194]), (196, [1, 2, 3, 6, 12, 24, 48, 49, 98, 196]), (198, [1, 2, 3, 6, 12, 24, 48, 51, 99, 198]), (204, [1, 2, 3, 6, 12, 24, 48, 51, 102, 204]), (193, [1, 2, 3, 6, 12, 24, 48, 96, 192, 193]), (195, [1, 2, 3, 6, 12, 24, 48, 96, 192, 195]), (133, [1, 2, 4, 8, 16, 17, 33, 66, 67, 133]), (134, [1, 2, 4, 8, 16, 17, 33, 66, 67, 134]), (149, [1, 2, 4, 8, 16, 17, 33, 66, 132, 149]), (137, [1, 2, 4, 8, 16, 17, 34, 68, 136, 137]), (131, [1, 2, 4, 8, 16, 32, 64, 65, 129, 131]), (142, [1, 2, 3, 5, 7, 14, 19, 38, 57, 71, 142]), (190, [1, 2, 3, 5, 7, 14, 19, 38, 57, 95, 190]), (171, [1, 2, 3, 5, 7, 14, 19, 38, 57, 114, 171]), (228, [1, 2, 3, 5, 7, 14, 19, 38, 57, 114, 228]), (154, [1, 2, 3, 5, 7, 14, 19, 38, 76, 77, 154]), (155, [1, 2, 3, 5, 7, 14, 19, 38, 76, 79, 155]), (158, [1, 2, 3, 5, 7, 14, 19, 38, 76, 79, 158]), (157, [1, 2, 3, 5, 7, 14, 19, 38, 76, 152, 157]), (159, [1, 2, 3, 5, 7, 14, 19, 38, 76, 152, 159]), (182, [1, 2, 3, 5, 7, 14, 21, 35, 70, 91, 182]), (175, [1, 2, 3, 5, 7, 14, 21, 35, 70, 105, 175]), (210, [1, 2, 3, 5, 7, 14, 21, 35, 70, 105, 210]), (141, [1, 2, 3, 5, 7, 14, 21, 35, 70, 140, 141]), (143, [1, 2, 3, 5, 7, 14, 21, 35, 70, 140, 143]), (178, [1, 2, 3, 5, 7, 14, 21, 42, 47, 89, 178]), (188, [1, 2, 3, 5, 7, 14, 21, 42, 47, 94, 188]), (127, [1, 2, 3, 5, 7, 14, 21, 42, 63, 126, 127]), (189, [1, 2, 3, 5, 7, 14, 21, 42, 63, 126, 189]), (252, [1, 2, 3, 5, 7, 14, 21, 42, 63, 126, 252]), (174, [1, 2, 3, 5, 7, 14, 21, 42, 84, 87, 174]), (169, [1, 2, 3, 5, 7, 14, 21, 42, 84, 168, 169]), (173, [1, 2, 3, 5, 7, 14, 21, 42, 84, 168, 173]), (232, [1, 2, 3, 5, 7, 14, 28, 29, 58, 116, 232]), (177, [1, 2, 3, 5, 7, 14, 28, 31, 59, 118, 177]), (236, [1, 2, 3, 5, 7, 14, 28, 31, 59, 118, 236]), (186, [1, 2, 3, 5, 7, 14, 28, 31, 62, 93, 186]), (248, [1, 2, 3, 5, 7, 14, 28, 31, 62, 124, 248]), (234, [1, 2, 3, 5, 7, 14, 28, 56, 61, 117, 234]), (183, [1, 2, 3, 5, 7, 14, 28, 56, 61, 122, 183]), (244, [1, 2, 3, 5, 7, 14, 28, 56, 61, 122, 244]), (225, [1, 2, 3, 5, 7, 14, 28, 56, 112, 113, 225]), (226, [1, 2, 3, 5, 7, 14, 28, 56, 112, 113, 226]), (227, [1, 2, 3, 5, 7, 14, 28, 56, 112, 115, 227]), (230, [1, 2, 3, 5, 7, 14, 28, 56, 112, 115, 230]), (231, [1, 2, 3, 5, 7, 14, 28, 56, 112, 119, 231]), (238, [1, 2, 3, 5, 7, 14, 28, 56, 112, 119, 238]), (229, [1, 2, 3, 5, 7, 14, 28, 56, 112, 224, 229]), (220, [1, 2, 3, 5, 10, 11, 22, 44, 55, 110, 220]), (179, [1, 2, 3, 5, 10, 11, 22, 44, 88, 176, 179]), (181, [1, 2, 3, 5, 10, 11, 22, 44, 88, 176, 181]), (187, [1, 2, 3, 5, 10, 11, 22, 44, 88, 176, 187]), (139, [1, 2, 3, 5, 10, 13, 23, 46, 69, 138, 139]), (151, [1, 2, 3, 5, 10, 13, 23, 46, 69, 138, 151]), (207, [1, 2, 3, 5, 10, 13, 23, 46, 69, 138, 207]), (185, [1, 2, 3, 5, 10, 13, 23, 46, 92, 184, 185]), (197, [1, 2, 3, 5, 10, 13, 23, 46, 92, 184, 197]), (212, [1, 2, 3, 5, 10, 13, 26, 52, 53, 106, 212]), (211, [1, 2, 3, 5, 10, 13, 26, 52, 104, 107, 211]), (214, [1, 2, 3, 5, 10, 13, 26, 52, 104, 107, 214]), (213, [1, 2, 3, 5, 10, 13, 26, 52, 104, 109, 213]), (218, [1, 2, 3, 5, 10, 13, 26, 52, 104, 109, 218]), (209, [1, 2, 3, 5, 10, 13, 26, 52, 104, 208, 209]), (221, [1, 2, 3, 5, 10, 13, 26, 52, 104, 208, 221]), (250, [1, 2, 3, 5, 10, 15, 25, 50, 75, 125, 250]), (201, [1, 2, 3, 5, 10, 15, 25, 50, 100, 101, 201]), (202, [1, 2, 3, 5, 10, 15, 25, 50, 100, 101, 202]), (203, [1, 2, 3, 5, 10, 15, 25, 50, 100, 103, 203]), (206, [1, 2, 3, 5, 10, 15, 25, 50, 100, 103, 206]), (205, [1, 2, 3, 5, 10, 15, 25, 50, 100, 200, 205]), (215, [1, 2, 3, 5, 10, 15, 25, 50, 100, 200, 215]), (241, [1, 2, 3, 5, 10, 15, 30, 60, 120, 121, 241]), (242, [1, 2, 3, 5, 10, 15, 30, 60, 120, 121, 242]), (243, [1, 2, 3, 5, 10, 15, 30, 60, 120, 123, 243]), (246, [1, 2, 3, 5, 10, 15, 30, 60, 120, 123, 246]), (245, [1, 2, 3, 5, 10, 15, 30, 60, 120, 240, 245]), (255, [1, 2, 3, 5, 10, 15, 30, 60, 120, 240, 255]), (167, [1, 2, 3, 5, 10, 20, 40, 41, 81, 162, 167]), (249, [1, 2, 3, 5, 10, 20, 40, 43, 83, 166, 249]), (219, [1, 2, 3, 6, 9, 18, 27, 54, 108, 111, 219]), (222, [1, 2, 3, 6, 9, 18, 27, 54, 108, 111, 222]), (217, [1, 2, 3, 6, 9, 18, 27, 54, 108, 216, 217]), (199, [1, 2, 3, 6, 12, 24, 48, 49, 98, 196, 199]), (191, [1, 2, 3, 5, 7, 14, 19, 38, 57, 95, 190, 191]), (247, [1, 2, 3, 5, 7, 14, 19, 38, 57, 95, 190, 247]), (233, [1, 2, 3, 5, 7, 14, 19, 38, 57, 114, 228, 233]), (235, [1, 2, 3, 5, 7, 14, 19, 38, 57, 114, 228, 235]), (237, [1, 2, 3, 5, 7, 14, 19, 38, 76, 79, 158, 237]), (253, [1, 2, 3, 5, 7, 14, 21, 42, 63, 126, 127, 253]), (254, [1, 2, 3, 5, 7, 14, 21, 42, 63, 126, 127, 254]), (239, [1, 2, 3, 5, 7, 14, 28, 29, 58, 116, 232, 239]), (251, [1, 2, 3, 5, 7, 14, 28, 31, 62, 124, 248, 251]), (223, [1, 2, 3, 5, 10, 11, 22, 44, 55, 110, 220, 223])]

def treeN (k : Nat) : Nat := ([1, 2, 4, 7, 12, 21, 36, 62, 105, 174, 246, 256] : List Nat).getD k 256

def treeL (k : Nat) : List (Int × List Int) := (treeW.take (treeN k)).drop (if k = 0 then 0 else treeN (k - 1))

theorem treeP_step : ∀ k : Nat, k < 12 → wayT 256 ((treeL k).map (·.1)) (treeW.take (treeN k)) = ((treeL (k + 1)).map (·.1), treeW.take (treeN (k + 1))) := by decide +kernel

theorem tree_end : (treeL 12).map (·.1) = [] ∧ ∀ k : Nat, k < 12 → (treeL k).map (·.1) ≠ [] := by decide +kernel

/-- Sorted numbers of a level and those before it, as the reference keeps them. -/
def treeA (k : Nat) : List Int := (treeW.take (treeN k)).foldl (fun l e => putN e.1 l) []

theorem treeS_step : ∀ k : Nat, k < 8 → growT ((treeL k).map (·.2), treeA k) = ((treeL (k + 1)).map (·.2), treeA (k + 1)) := by decide +kernel

theorem treeS_eq : ∀ k : Nat, k ≤ 8 → treeS k = ((treeL k).map (·.2), treeA k)
  | 0, _ => rfl
  | k + 1, h => by
    rw [treeS, treeS_eq k (by omega)]
    exact treeS_step k (by omega)

theorem treeL_last : ∀ k : Nat, k ≤ 8 → (treeL k).map (fun e => lastD e.2) = (treeL k).map (·.1) := by decide +kernel

def shOk (n : Int) : Bool := decide (1 ≤ n ∧ n ≤ 100)

def TupS (l : List (List Int)) (ok : Bool) (r : AV) (M : List It) : Prop := ∃ w us, r = .tup [w, .b ok] ∧ us.length = l.length ∧ lenA w = some us.length ∧ w.sc = true ∧ M = ssI w us l

theorem TupS.none {h0 h : AH} {L : List It} (H : Loq h0 h L) : ∃ M, TupS [] false (.tup [.ns, .b false]) M ∧ Loq h0 h M := ⟨_, ⟨.ns, [], rfl, rfl, rfl, rfl, rfl⟩, loq_ns (H.sub (List.nil_sublist _)) 1⟩

/-! ### What is drawn for stars -/
theorem short_ac (bc : Nat) (cv : AV) (l : List Int) (ct sd : Int) (h0 h : AH) (L : List It) (HL : Loq h0 h (.pt bc [cv, .i .i64 ct, .i .u64 sd] :: L)) (hcv : RdG 1 enU h0 cv l) (hb : ∀ x ∈ l, 0 ≤ x ∧ x ≤ 255) (h1 : 0 ≤ ct) (h2 : ct ≤ 549745813888) :
    AC Try.prog 95 [.p bc 0] h (fun r h' => ∃ M, (∃ x ct' sd', r = .i .i64 x ∧ (-1 ≤ x ∧ x ≤ 101) ∧ (ct ≤ ct' ∧ ct' ≤ ct + 6) ∧ M = .pt bc [cv, .i .i64 ct', .i .u64 sd'] :: L) ∧ Loq h0 h' M) := by
  refine e95 _ fun wf => ?_
  unfold c95
  refine LI_startL HL ?_
  refine W ?_
  refine LS_cm (.refl _) (fun h' HL wf => one_ac 12 _ _ _ _ _ _ h' _ HL  hcv hb (by omega) (by omega)) rfl rfl ?_
  rintro _ _ ⟨x, ct1, sd1, rfl, hx, hct1, rfl⟩
  try (dsimp only [st, setL, AV.cells, List.set_cons_zero, List.set_cons_succ, List.drop_zero, List.drop_succ_cons, List.take_zero, List.take_succ_cons, Nat.zero_add, Nat.add_zero, Nat.reduceAdd, List.cons_append, List.nil_append, List.eraseIdx_cons_zero, List.eraseIdx_cons_succ])
  refine W ?_
  cases x
  · first | (refine LS_gtnH rfl (rfl) ?_; intro hg; try (dsimp only [st, setL, AV.cells, List.set_cons_zero, List.set_cons_succ, List.drop_zero, List.drop_succ_cons, List.take_zero, List.take_succ_cons, Nat.zero_add, Nat.add_zero, Nat.reduceAdd, List.cons_append, List.nil_append, List.eraseIdx_cons_zero, List.eraseIdx_cons_succ])) | (refine LS_gfnH rfl (rfl) ?_; intro hg; try (dsimp only [st, setL, AV.cells, List.set_cons_zero, List.set_cons_succ, List.drop_zero, List.drop_succ_cons, List.take_zero, List.take_succ_cons, Nat.zero_add, Nat.add_zero, Nat.reduceAdd, List.cons_append, List.nil_append, List.eraseIdx_cons_zero, List.eraseIdx_cons_succ])) | (refine LI_cond_fH rfl (rfl) ?_; intro hg)
    refine W ?_
    refine LS_lt [12, 40, 100] rfl rfl (by decide) rfl rfl rfl rfl enI1 rfl rfl fun w lw sw => ?_
    try (dsimp only [st, setL, AV.cells, List.set_cons_zero, List.set_cons_succ, List.drop_zero, List.drop_succ_cons, List.take_zero, List.take_succ_cons, Nat.zero_add, Nat.add_zero, Nat.reduceAdd, List.cons_append, List.nil_append, List.eraseIdx_cons_zero, List.eraseIdx_cons_succ])
    refine W ?_
    refine LS_rot 1 rfl ?_
    refine LS_cm (.refl _) (fun h' HL wf => among_ac [12, 40, 100] w _ _ _ _ _ _ h' _ HL (fun h' HL => HL.rdI 0 rfl enI1 (by decide)) (by decide) hcv hb (by omega) (by omega)) rfl rfl ?_
    rintro _ _ ⟨x, ct2, sd2, rfl, hx, hct2, rfl⟩
    try (dsimp only [st, setL, AV.cells, List.set_cons_zero, List.set_cons_succ, List.drop_zero, List.drop_succ_cons, List.take_zero, List.take_succ_cons, Nat.zero_add, Nat.add_zero, Nat.reduceAdd, List.cons_append, List.nil_append, List.eraseIdx_cons_zero, List.eraseIdx_cons_succ])
    refine W ?_
    have : x = 12 ∨ x = 40 ∨ x = 100 := by simpa using hx
    refine LS_cm (.refl _) (fun h' HL wf => pick_ac x _ _ _ _ _ _ h' _ HL  hcv hb (by omega) (by omega)) rfl rfl ?_
    rintro _ _ ⟨y, ct3, sd3, rfl, hy, hct3, rfl⟩
    try (dsimp only [st, setL, AV.cells, List.set_cons_zero, List.set_cons_succ, List.drop_zero, List.drop_succ_cons, List.take_zero, List.take_succ_cons, Nat.zero_add, Nat.add_zero, Nat.reduceAdd, List.cons_append, List.nil_append, List.eraseIdx_cons_zero, List.eraseIdx_cons_succ])
    refine W ?_
    refine RET fun h' HL => ?_
    try dsimp only [oneA]
    exact ⟨_, ⟨_, ct3, sd3, rfl, by omega, by omega, rfl⟩, HL.sub (by simp)⟩
  · first | (refine LS_gyH rfl (rfl) ?_; intro hg) | (refine LI_cond_tH rfl (rfl) ?_; intro hg)
    refine W ?_
    refine LS_lt [0, -1, 100, 101] rfl rfl (by decide) rfl rfl rfl rfl enI1 rfl rfl fun w lw sw => ?_
    try (dsimp only [st, setL, AV.cells, List.set_cons_zero, List.set_cons_succ, List.drop_zero, List.drop_succ_cons, List.take_zero, List.take_succ_cons, Nat.zero_add, Nat.add_zero, Nat.reduceAdd, List.cons_append, List.nil_append, List.eraseIdx_cons_zero, List.eraseIdx_cons_succ])
    refine W ?_
    refine LS_rot 1 rfl ?_
    refine LS_cm (.refl _) (fun h' HL wf => among_ac [0, -1, 100, 101] w _ _ _ _ _ _ h' _ HL (fun h' HL => HL.rdI 0 rfl enI1 (by decide)) (by decide) hcv hb (by omega) (by omega)) rfl rfl ?_
    rintro _ _ ⟨x, ct2, sd2, rfl, hx, hct2, rfl⟩
    try (dsimp only [st, setL, AV.cells, List.set_cons_zero, List.set_cons_succ, List.drop_zero, List.drop_succ_cons, List.take_zero, List.take_succ_cons, Nat.zero_add, Nat.add_zero, Nat.reduceAdd, List.cons_append, List.nil_append, List.eraseIdx_cons_zero, List.eraseIdx_cons_succ])
    refine W ?_
    have : x = 0 ∨ x = -1 ∨ x = 100 ∨ x = 101 := by simpa using hx
    refine RET fun h' HL => ?_
    try dsimp only [oneA]
    exact ⟨_, ⟨_, ct2, sd2, rfl, by omega, by omega, rfl⟩, HL.sub (by simp)⟩

theorem DrawStarLength_ac (c1 : List Int) (v1 : AV) (h : AH) (hcv : RdG 1 enU h v1 c1) (hb : ∀ x ∈ c1, 0 ≤ x ∧ x ≤ 255) :
    AC Try.prog 78 [v1] h (fun r h' => (∃ x, r = .i .i64 x ∧ (-1 ≤ x ∧ x ≤ 101)) ∧ h.le h') := by
  refine e78 _ fun wf => ?_
  unfold c78
  refine LI_start wf ?_
  refine W ?_
  refine LS_bxn rfl (sc_cons (rd_sc hcv) rfl) fun bc => ?_
  try (dsimp only [st, setL, AV.cells, List.set_cons_zero, List.set_cons_succ, List.drop_zero, List.drop_succ_cons, List.take_zero, List.take_succ_cons, Nat.zero_add, Nat.add_zero, Nat.reduceAdd, List.cons_append, List.nil_append, List.eraseIdx_cons_zero, List.eraseIdx_cons_succ])
  refine W ?_
  refine LS_cm (.refl _) (fun h' HL wf => short_ac _ _ _ _ _ _ h' _ HL  hcv hb (by omega) (by omega)) rfl rfl ?_
  rintro _ _ ⟨x, ct1, sd1, rfl, hx, hct1, rfl⟩
  try (dsimp only [st, setL, AV.cells, List.set_cons_zero, List.set_cons_succ, List.drop_zero, List.drop_succ_cons, List.take_zero, List.take_succ_cons, Nat.zero_add, Nat.add_zero, Nat.reduceAdd, List.cons_append, List.nil_append, List.eraseIdx_cons_zero, List.eraseIdx_cons_succ])
  refine W ?_
  refine RET fun h' HL => ?_
  try dsimp only [oneA]
  exact ⟨⟨x, rfl, hx⟩, HL.le⟩

theorem DrawTreePath_ac (c1 : List Int) (v1 : AV) (h : AH) (hcv : RdG 1 enU h v1 c1) (hb : ∀ x ∈ c1, 0 ≤ x ∧ x ≤ 255) :
    AC Try.prog 39 [v1] h (fun r h' => (∃ x, r = .i .i64 x ∧ (-1 ≤ x ∧ x ≤ 101)) ∧ h.le h') := by
  refine e39 _ fun wf => ?_
  unfold c39
  refine LI_start wf ?_
  refine W ?_
  refine LS_cq (fun h' HL wf => DrawStarLength_ac c1 v1 h' (hcv.le HL.le) hb) rfl rfl ?_
  try (dsimp only [st, setL, AV.cells, List.set_cons_zero, List.set_cons_succ, List.drop_zero, List.drop_succ_cons, List.take_zero, List.take_succ_cons, Nat.zero_add, Nat.add_zero, Nat.reduceAdd, List.cons_append, List.nil_append, List.eraseIdx_cons_zero, List.eraseIdx_cons_succ])
  refine W ?_
  rintro _ ⟨x, rfl, hx⟩
  try (dsimp only [st, setL, AV.cells, List.set_cons_zero, List.set_cons_succ, List.drop_zero, List.drop_succ_cons, List.take_zero, List.take_succ_cons, Nat.zero_add, Nat.add_zero, Nat.reduceAdd, List.cons_append, List.nil_append, List.eraseIdx_cons_zero, List.eraseIdx_cons_succ])
  refine W ?_
  refine RET fun h' HL => ?_
  try dsimp only [oneA]
  exact ⟨⟨x, rfl, hx⟩, HL.le⟩

theorem lastD_idx {c : List Int} {k : Nat} {n : Int} (hc : c.length = k + 1) (hl : lastD c = n) : c[k]? = some n := by
  have : k = c.length - 1 := by omega
  subst this
  rw [← List.getLast?_eq_getElem?, ← hl, lastD]
  cases c with
  | nil => simp at hc
  | cons x l => simp [List.getLastD, List.getLast?]

/-! ### Lists drawn; the law of checks -/
theorem rHas_ac (l : List Int) (v : AV) (x : Int) (h : AH) (hR : Rd h v l) (hl : l.length ≤ 4611686018427387904) : AC Try.prog 35 [v, .i .i64 x] h (fun r h' => r = .b (l.any fun y => y == x) ∧ h.le h') := by
  refine e35 _ _ fun wf => ?_
  unfold c35
  refine LI_start wf ?_
  refine W ?_
  refine LIL_ind (fun n a L => ∃ (i : Int), (∃ r : Nat → AV, a = [r 0, .i .i64 x, r 2, r 3, r 4, r 5, r 6, v, .i .i64 l.length, .i .i64 i, r 10, r 11, r 12, r 13, r 14, r 15, r 16]) ∧ L = [] ∧ 0 ≤ i ∧ i + n = l.length ∧ (l.any fun y => y == x) = ((l.drop i.toNat).any fun y => y == x))
    l.length ⟨0, exJ rfl, rfl, by omega, by omega, rfl⟩ ?_
  rintro n a L ⟨i, ⟨r, rfl⟩, rfl, h0, hn, heq⟩ IH
  refine W ?_
  (first | refine LS_gt rfl ?_ ?_ | refine LS_gf rfl ?_ ?_ | refine LI_cond rfl ?_ ?_) <;> intro hc <;> have hc' := hc <;> try simp only [decide_eq_true_eq, decide_eq_false_iff_not, Bool.not_eq_true', Bool.not_eq_false', Bool.not_eq_true, Bool.not_eq_false, beq_iff_eq, bne_iff_ne, beq_eq_false_iff_ne, bne_eq_false_iff_eq, Int.not_lt, Int.not_le, ge_iff_le, gt_iff_lt, not_and, ne_eq, Decidable.not_not] at hc'
  all_goals (try (dsimp only [st, setL, AV.cells, List.set_cons_zero, List.set_cons_succ, List.drop_zero, List.drop_succ_cons, List.take_zero, List.take_succ_cons, Nat.zero_add, Nat.add_zero, Nat.reduceAdd, List.cons_append, List.nil_append, List.eraseIdx_cons_zero, List.eraseIdx_cons_succ]))
  all_goals (refine W ?_)
  · obtain ⟨y, hy, hym, hd⟩ := drop_at h0 hc'
    rw [hd, List.any_cons] at heq
    refine LS_ix (fun h' HL => hR.le HL.le) enI1 hy h0 rfl rfl fun b o hrow => ?_
    try (dsimp only [st, setL, AV.cells, List.set_cons_zero, List.set_cons_succ, List.drop_zero, List.drop_succ_cons, List.take_zero, List.take_succ_cons, Nat.zero_add, Nat.add_zero, Nat.reduceAdd, List.cons_append, List.nil_append, List.eraseIdx_cons_zero, List.eraseIdx_cons_succ])
    refine W ?_
    (first | refine LS_gt rfl ?_ ?_ | refine LS_gf rfl ?_ ?_ | refine LI_cond rfl ?_ ?_) <;> intro hc <;> have hc' := hc <;> try simp only [decide_eq_true_eq, decide_eq_false_iff_not, Bool.not_eq_true', Bool.not_eq_false', Bool.not_eq_true, Bool.not_eq_false, beq_iff_eq, bne_iff_ne, beq_eq_false_iff_ne, bne_eq_false_iff_eq, Int.not_lt, Int.not_le, ge_iff_le, gt_iff_lt, not_and, ne_eq, Decidable.not_not] at hc'
    all_goals (try (dsimp only [st, setL, AV.cells, List.set_cons_zero, List.set_cons_succ, List.drop_zero, List.drop_succ_cons, List.take_zero, List.take_succ_cons, Nat.zero_add, Nat.add_zero, Nat.reduceAdd, List.cons_append, List.nil_append, List.eraseIdx_cons_zero, List.eraseIdx_cons_succ]))
    all_goals (refine W ?_)
    · rw [heq, hc]
      refine RET fun h' HL => ?_
      try dsimp only [oneA]
      exact ⟨rfl, HL.le⟩
    · refine IH (n - 1) _ _ (by omega) ⟨i + 1, exJ rfl, rfl, by omega, by omega, ?_⟩
      rw [heq, hc, Bool.false_or, toNat_succ h0]
  · rw [heq, List.drop_eq_nil_of_le (by omega)]
    refine RET fun h' HL => ?_
    try dsimp only [oneA]
    exact ⟨rfl, HL.le⟩

theorem sl_of_len {w : AV} {n : Nat} (h : lenA w = some n) (h0 : 0 < n) : ∃ b o c, w = .sl b o n c := by
  cases w <;> simp [lenA] at h
  · subst h; exact ⟨_, _, _, rfl⟩
  · omega

def chB (lo m : Int) (c : List Int) : Prop := ∀ x ∈ c, lo ≤ x ∧ x ≤ m

theorem chB.mono {lo m lo' m' : Int} {c : List Int} (h : chB lo m c) (h0 : lo' ≤ lo) (h1 : m ≤ m') : chB lo' m' c := fun x hx => by have := h x hx; omega

theorem chB.set {lo m : Int} {c : List Int} {z : Int} (h : chB lo m c) (i : Nat) (h0 : lo ≤ z) (h1 : z ≤ m) : chB lo m (c.set i z) := fun x hx => by
  rcases List.mem_or_eq_of_mem_set hx with hx | rfl
  · exact h x hx
  · exact ⟨h0, h1⟩

/-! ### The power tree: the program's walk -/
def zipE (ws : List (Int × List Int)) (us : List AV) : List (Int × AV) := List.zip (ws.map (·.1)) us

theorem findE : ∀ {ws : List (Int × List Int)} {us : List AV} (k : Int), us.length = ws.length → (findI k (zipE ws us) = none ∧ ws.find? (fun e => e.1 == k) = none) ∨ ∃ (i : Nat) (u : AV) (p : Int × List Int), us[i]? = some u ∧ ws[i]? = some p ∧ findI k (zipE ws us) = some u ∧ ws.find? (fun e => e.1 == k) = some p
  | [], [], k, _ => .inl ⟨rfl, rfl⟩
  | p :: ws, u :: us, k, h => by
    simp only [zipE, List.map_cons, List.zip_cons_cons, findI, List.find?_cons]
    by_cases hk : p.1 = k
    · exact .inr ⟨0, u, p, rfl, rfl, by rw [if_pos hk], by simp [hk]⟩
    · have hb : (p.1 == k) = false := by simpa using hk
      rw [if_neg hk, hb]
      rcases findE (ws := ws) (us := us) k (by simpa using h) with ⟨h1, h2⟩ | ⟨i, u', p', h1, h2, h3, h4⟩
      · exact .inl ⟨h1, h2⟩
      · exact .inr ⟨i + 1, u', p', by simpa using h1, by simpa using h2, h3, h4⟩
  | [], _ :: _, _, h => by simp at h
  | _ :: _, [], _, h => by simp at h

theorem putI_none {k : Int} {v : AV} : ∀ {es : List (Int × AV)}, findI k es = none → putI k v es = es ++ [(k, v)]
  | [], _ => rfl
  | x :: es, h => by
    rw [findI] at h
    by_cases hk : x.1 = k
    · rw [if_pos hk] at h; cases h
    · rw [if_neg hk] at h
      rw [putI, if_neg hk, putI_none h]; rfl

theorem putE {ws : List (Int × List Int)} {us : List AV} {k : Int} {v : AV} {l : List Int} (hl : us.length = ws.length) (h : findI k (zipE ws us) = none) : putI k v (zipE ws us) = zipE (ws ++ [(k, l)]) (us ++ [v]) := by
  rw [putI_none h]
  simp only [zipE, List.map_append, List.map_cons, List.map_nil]
  rw [List.zip_append (by simp [hl])]
  rfl

structure TS (ws0 : List (Int × List Int)) (s : List Int × List (Int × List Int)) (B : Nat) : Prop where
  nl : s.1.length ≤ B
  nb : ∀ n ∈ s.1, 0 ≤ n ∧ n ≤ 256
  pre : ∃ t, s.2 = ws0 ++ t
  wb : ∀ p ∈ s.2, 1 ≤ p.2.length ∧ p.2.length ≤ 14 ∧ ∀ x ∈ p.2, 0 ≤ x ∧ x ≤ 256

theorem TS.step {ws0 : List (Int × List Int)} {s : List Int × List (Int × List Int)} {B : Nat} {m x : Int} {way : List Int} (H : TS ws0 s B) (hm : 0 ≤ m ∧ m ≤ 256) (hx : 0 ≤ x ∧ x ≤ 256) (hw : way.length ≤ 13 ∧ ∀ x ∈ way, 0 ≤ x ∧ x ≤ 256) :
    TS ws0 (wayA 256 m way s x) (B + 1) := by
  unfold wayA
  split
  · rename_i hc
    refine ⟨by have := H.nl; simp; omega, ?_, ?_, ?_⟩
    · intro n hn
      rcases List.mem_append.1 hn with hn | hn
      · exact H.nb n hn
      · rw [List.mem_singleton.1 hn]; omega
    · obtain ⟨t, ht⟩ := H.pre
      exact ⟨t ++ [(m + x, way ++ [m + x])], by rw [ht, List.append_assoc]⟩
    · intro p hp
      rcases List.mem_append.1 hp with hp | hp
      · exact H.wb p hp
      · rw [List.mem_singleton.1 hp]
        refine ⟨by simp, by simp; omega, fun y hy => ?_⟩
        rcases List.mem_append.1 hy with hy | hy
        · exact hw.2 y hy
        · rw [List.mem_singleton.1 hy]; omega
  · exact ⟨by have := H.nl; omega, H.nb, H.pre, H.wb⟩

theorem TS.mono {ws0 : List (Int × List Int)} {s : List Int × List (Int × List Int)} {B B' : Nat} (H : TS ws0 s B) (h : B ≤ B') : TS ws0 s B' := ⟨Nat.le_trans H.nl h, H.nb, H.pre, H.wb⟩

theorem find_pre {ws0 t : List (Int × List Int)} {m : Int} {p : Int × List Int} (h : ws0.find? (fun e => e.1 == m) = some p) : (ws0 ++ t).find? (fun e => e.1 == m) = some p := by
  rw [List.find?_append, h]; rfl

def wayF (most : Int) (s : List Int × List (Int × List Int)) (m : Int) : List Int × List (Int × List Int) := (wayOf s.2 m).foldl (wayA most m (wayOf s.2 m)) s

theorem treeW_ok : ∀ p ∈ treeW, 1 ≤ p.2.length ∧ p.2.length ≤ 13 ∧ ∀ x ∈ p.2, 0 ≤ x ∧ x ≤ 256 := by decide +kernel

theorem treeL_key : ∀ k : Nat, k < 12 → ∀ m ∈ (treeL k).map (·.1), ((treeW.take (treeN k)).find? (fun e => e.1 == m)).isSome = true ∧ 0 ≤ m ∧ m ≤ 256 := by decide +kernel

theorem treeL_len : ∀ k : Nat, k < 13 → (treeL k).length ≤ 256 := by decide +kernel

theorem treeW_len : treeW.length = 256 := by decide +kernel

theorem treeN_bd : ∀ k : Nat, k < 13 → treeN k ≤ 256 := by decide

theorem treeP_w (k : Nat) (hk : k < 12) : ((treeL k).map (·.1)).foldl (wayF 256) ([], treeW.take (treeN k)) = ((treeL (k + 1)).map (·.1), treeW.take (treeN (k + 1))) := treeP_step k hk

def lvl (k : Nat) : List Int := (treeL k).map (·.1)

def lvls (k : Nat) : List (List Int) := (List.range k).map lvl

theorem lvls_succ (k : Nat) : lvls (k + 1) = lvls k ++ [lvl k] := by simp [lvls, List.range_succ]

theorem lvls_get {j k : Nat} (h : j < k) : (lvls k)[j]? = some (lvl j) := by simp [lvls, h]

def tabI (r : Nat) (ws : List (Int × List Int)) (us : List AV) : It := .mp r (mpI (zipE ws us))

def colI (ws : List (Int × List Int)) : List (List Int) := ws.map (·.2)

theorem colI_get {ws : List (Int × List Int)} {i : Nat} {p : Int × List Int} (h : ws[i]? = some p) : (colI ws)[i]? = some p.2 := by simp [colI, h]

theorem colI_len (ws : List (Int × List Int)) : (colI ws).length = ws.length := by simp [colI]

theorem perm_last (x y z : It) (R S : List It) : (x :: y :: z :: (R ++ S)).Perm (y :: z :: (R ++ (S ++ [x]))) := by
  have h := (List.perm_append_singleton x (y :: z :: (R ++ S))).symm
  have e : y :: z :: (R ++ S) ++ [x] = y :: z :: (R ++ (S ++ [x])) := by simp
  rw [e] at h
  exact h

theorem lvls_mem3 {x y z w : It} {R S : List It} (h : w ∈ S) : w ∈ x :: y :: z :: (R ++ S) := List.mem_cons_of_mem _ (List.mem_cons_of_mem _ (List.mem_cons_of_mem _ (List.mem_append_right _ h)))

theorem rows_mem3 {x y z w : It} {R S : List It} (h : w ∈ R) : w ∈ x :: y :: z :: (R ++ S) := List.mem_cons_of_mem _ (List.mem_cons_of_mem _ (List.mem_cons_of_mem _ (List.mem_append_left _ h)))

theorem treeWays_ac (h : AH) : AC Try.prog 66 [.i .i64 256] h (fun r h' => ∃ M, (∃ (rr : Nat) (lv : AV) (us ls : List AV), r = .tup [.m rr, lv] ∧ us.length = 256 ∧ ls.length = 12 ∧ lenA lv = some ls.length ∧ lv.sc = true ∧ M = tabI rr treeW us :: .sl lv 1 (ls.flatMap enV) :: (rowsI us (colI treeW) ++ rowsI ls (lvls 12))) ∧ Loq h h' M) := by
  refine e66 _ fun wf => ?_
  unfold c66
  refine LI_start wf ?_
  refine W ?_
  refine LS_mkM fun rf => ?_
  try (dsimp only [st, setL, AV.cells, List.set_cons_zero, List.set_cons_succ, List.drop_zero, List.drop_succ_cons, List.take_zero, List.take_succ_cons, Nat.zero_add, Nat.add_zero, Nat.reduceAdd, List.cons_append, List.nil_append, List.eraseIdx_cons_zero, List.eraseIdx_cons_succ])
  refine W ?_
  refine LS_lt [1] rfl rfl (by decide) rfl rfl rfl rfl enI1 rfl rfl fun w1 lw1 sw1 => ?_
  try (dsimp only [st, setL, AV.cells, List.set_cons_zero, List.set_cons_succ, List.drop_zero, List.drop_succ_cons, List.take_zero, List.take_succ_cons, Nat.zero_add, Nat.add_zero, Nat.reduceAdd, List.cons_append, List.nil_append, List.eraseIdx_cons_zero, List.eraseIdx_cons_succ])
  refine W ?_
  refine LS_mins 1 Try.underlying51 Try.underlying3 rfl rfl rfl rfl ?_
  try (dsimp only [st, setL, AV.cells, List.set_cons_zero, List.set_cons_succ, List.drop_zero, List.drop_succ_cons, List.take_zero, List.take_succ_cons, Nat.zero_add, Nat.add_zero, Nat.reduceAdd, List.cons_append, List.nil_append, List.eraseIdx_cons_zero, List.eraseIdx_cons_succ])
  refine W ?_
  refine LS_lt [1] rfl rfl (by decide) rfl rfl rfl rfl enI1 rfl rfl fun w2 lw2 sw2 => ?_
  try (dsimp only [st, setL, AV.cells, List.set_cons_zero, List.set_cons_succ, List.drop_zero, List.drop_succ_cons, List.take_zero, List.take_succ_cons, Nat.zero_add, Nat.add_zero, Nat.reduceAdd, List.cons_append, List.nil_append, List.eraseIdx_cons_zero, List.eraseIdx_cons_succ])
  refine W ?_
  refine LS_ltV rfl rfl sw2 rfl fun w3 lw3 sw3 => ?_
  try (dsimp only [st, setL, AV.cells, List.set_cons_zero, List.set_cons_succ, List.drop_zero, List.drop_succ_cons, List.take_zero, List.take_succ_cons, Nat.zero_add, Nat.add_zero, Nat.reduceAdd, List.cons_append, List.nil_append, List.eraseIdx_cons_zero, List.eraseIdx_cons_succ])
  refine W ?_
  refine LIL_conv (L' := tabI rf (treeW.take (treeN 0)) [w1] :: .sl w3 1 ([w2].flatMap enV) :: (rowsI [w1] (colI (treeW.take (treeN 0))) ++ rowsI [w2] (lvls 1))) (fun h' HL => HL.sel [3, 0, 2, 1] (by decide)) ?_
  refine LIL_ind (fun j a L => ∃ (k : Nat) (lv : AV) (us ls : List AV), (∃ r : Nat → AV, a = [.i .i64 256, r 1, r 2, r 3, .m rf, lv, r 6, r 7, r 8, r 9, r 10, r 11, r 12, r 13, r 14, r 15, r 16, r 17, r 18, r 19, r 20, r 21, r 22, r 23, r 24, r 25, r 26, r 27, r 28, r 29, r 30, r 31, r 32, r 33, r 34, r 35, r 36, r 37, r 38, r 39, r 40, r 41, r 42, r 43, r 44, r 45, r 46, r 47, r 48, r 49, r 50, r 51, r 52, r 53, r 54, r 55, r 56, r 57, r 58, r 59, r 60, r 61, r 62, r 63, r 64, r 65, r 66, r 67, r 68, r 69, r 70, r 71, r 72]) ∧ L = tabI rf (treeW.take (treeN k)) us :: .sl lv 1 (ls.flatMap enV) :: (rowsI us (colI (treeW.take (treeN k))) ++ rowsI ls (lvls (k + 1))) ∧ k + j = 12 ∧ k ≤ 11 ∧ us.length = (treeW.take (treeN k)).length ∧ ls.length = k + 1 ∧ lenA lv = some ls.length ∧ lv.sc = true)
    12 ⟨0, w3, [w1], [w2], exJ rfl, rfl, rfl, by omega, rfl, rfl, lw3, sw3⟩ ?_
  rintro j a _ ⟨k, lv, us0, ls, ⟨r, rfl⟩, rfl, hkj, hk11, hus0, hls, llv, slv⟩ IH
  obtain ⟨ws0, hws0⟩ : ∃ ws0, treeW.take (treeN k) = ws0 := ⟨_, rfl⟩
  obtain ⟨lvk, hlvk⟩ : ∃ lvk, lvl k = lvk := ⟨_, rfl⟩
  have hstep := treeP_w k (by omega)
  have hkey := treeL_key k (by omega)
  have hlen := treeL_len k (by omega)
  have hw0 : ∀ p ∈ ws0, 1 ≤ p.2.length ∧ p.2.length ≤ 13 ∧ ∀ x ∈ p.2, 0 ≤ x ∧ x ≤ 256 := fun p hp => treeW_ok p (by rw [← hws0] at hp; exact List.mem_of_mem_take hp)
  have hn0 : ws0.length ≤ 256 := by rw [← hws0, List.length_take]; have := treeN_bd k (by omega); omega
  rw [hws0] at hus0 hstep hkey ⊢
  rw [show (treeL k).map (·.1) = lvk from hlvk] at hstep hkey
  have hlen2 : lvk.length ≤ 256 := by rw [← hlvk]; unfold lvl; rw [List.length_map]; exact hlen
  have hlk : (lvls (k + 1))[k]? = some lvk := by rw [← hlvk]; exact lvls_get (by omega)
  refine W ?_
  refine LS_lt ([] : List Int) rfl rfl (by decide) rfl rfl rfl rfl enI1 rfl rfl fun nx0 lnx0 snx0 => ?_
  try (dsimp only [st, setL, AV.cells, List.set_cons_zero, List.set_cons_succ, List.drop_zero, List.drop_succ_cons, List.take_zero, List.take_succ_cons, Nat.zero_add, Nat.add_zero, Nat.reduceAdd, List.cons_append, List.nil_append, List.eraseIdx_cons_zero, List.eraseIdx_cons_succ])
  refine W ?_
  obtain ⟨lu, hlu⟩ : ∃ lu, ls[k]? = some lu := at_ (l := ls) (i := k) (by omega)
  refine LS_ix (y := lu) (fun h' HL => HL.rdI 2 rfl enV1 (by decide)) enV1 (by rw [show ((ls.length : Int) - 1).toNat = k by omega]; exact hlu) (by omega) rfl rfl fun q1 o1 hrow1 => ?_
  try (dsimp only [st, setL, AV.cells, List.set_cons_zero, List.set_cons_succ, List.drop_zero, List.drop_succ_cons, List.take_zero, List.take_succ_cons, Nat.zero_add, Nat.add_zero, Nat.reduceAdd, List.cons_append, List.nil_append, List.eraseIdx_cons_zero, List.eraseIdx_cons_succ])
  refine W ?_
  refine LS_have (fun h' HL => (HL.rdM (List.mem_cons_of_mem _ (List.mem_cons_of_mem _ (List.mem_cons_of_mem _ (List.mem_append_right _ (rowsI_get hlu hlk))))) enI1 (by decide)).len) fun hllu => ?_
  refine W ?_
  refine LIL_ind (fun j a L => ∃ (nx : AV) (us : List AV) (s : List Int × List (Int × List Int)) (i : Int), (∃ r : Nat → AV, a = [.i .i64 256, r 1, r 2, r 3, .m rf, lv, nx, r 7, r 8, r 9, r 10, r 11, r 12, r 13, r 14, r 15, r 16, r 17, r 18, r 19, r 20, r 21, r 22, lu, .i .i64 lvk.length, .i .i64 i, r 26, r 27, r 28, r 29, r 30, r 31, r 32, r 33, r 34, r 35, r 36, r 37, r 38, r 39, r 40, r 41, r 42, r 43, r 44, r 45, r 46, r 47, r 48, r 49, r 50, r 51, r 52, r 53, r 54, r 55, r 56, r 57, r 58, r 59, r 60, r 61, r 62, r 63, r 64, r 65, r 66, r 67, r 68, r 69, r 70, r 71, r 72]) ∧ L = .sl nx 1 (s.1.flatMap enI) :: tabI rf s.2 us :: .sl lv 1 (ls.flatMap enV) :: (rowsI us (colI s.2) ++ rowsI ls (lvls (k + 1))) ∧ 0 ≤ i ∧ i + j = lvk.length ∧ s = (lvk.take i.toNat).foldl (wayF 256) ([], ws0) ∧ us.length = s.2.length ∧ lenA nx = some s.1.length ∧ nx.sc = true ∧ TS ws0 s (13 * i.toNat))
    lvk.length ⟨nx0, us0, ([], ws0), 0, exJ rfl, rfl, by omega, by omega, by simp, hus0, lnx0, snx0, ⟨by simp, by simp, ⟨[], by simp⟩, fun p hp => by have := hw0 p hp; exact ⟨this.1, by omega, this.2.2⟩⟩⟩ ?_
  rintro j2 a _ ⟨nx, us, s, i, ⟨r, rfl⟩, rfl, h0, hj2, hs, hus, lnx, snx, hT⟩ IH2
  refine W ?_
  (first | refine LS_gt rfl ?_ ?_ | refine LS_gf rfl ?_ ?_ | refine LI_cond rfl ?_ ?_) <;> intro hc <;> have hc' := hc <;> try simp only [decide_eq_true_eq, decide_eq_false_iff_not, Bool.not_eq_true', Bool.not_eq_false', Bool.not_eq_true, Bool.not_eq_false, beq_iff_eq, bne_iff_ne, beq_eq_false_iff_ne, bne_eq_false_iff_eq, Int.not_lt, Int.not_le, ge_iff_le, gt_iff_lt, not_and, ne_eq, Decidable.not_not] at hc'
  all_goals (try (dsimp only [st, setL, AV.cells, List.set_cons_zero, List.set_cons_succ, List.drop_zero, List.drop_succ_cons, List.take_zero, List.take_succ_cons, Nat.zero_add, Nat.add_zero, Nat.reduceAdd, List.cons_append, List.nil_append, List.eraseIdx_cons_zero, List.eraseIdx_cons_succ]))
  all_goals (refine W ?_)
  · obtain ⟨m, hm, hmm, _⟩ := drop_at (l := lvk) h0 hc'
    obtain ⟨hmk, hmb⟩ := hkey m hmm
    obtain ⟨p, hp⟩ := Option.isSome_iff_exists.1 hmk
    have hpw := hw0 p (List.mem_of_find?_eq_some hp)
    have hfs : ∀ {s' : List Int × List (Int × List Int)} {B : Nat}, TS ws0 s' B → s'.2.find? (fun e => e.1 == m) = some p := fun H => by obtain ⟨t, ht⟩ := H.pre; rw [ht]; exact find_pre hp
    have hwo : wayOf s.2 m = p.2 := by rw [wayOf, hfs hT]; rfl
    have hfind : ∀ {s' : List Int × List (Int × List Int)} {us' : List AV} {B : Nat}, TS ws0 s' B → us'.length = s'.2.length → ∃ (i : Nat) (u : AV), us'[i]? = some u ∧ s'.2[i]? = some p ∧ findI m (zipE s'.2 us') = some u := fun H hl => by
      rcases findE m hl with ⟨_, f2⟩ | ⟨i, u, p', f1, f2, f3, f4⟩
      · rw [hfs H] at f2; cases f2
      · rw [hfs H] at f4; cases f4; exact ⟨i, u, f1, f2, f3⟩
    obtain ⟨iu, u, hu, hpu, hfu⟩ := hfind hT hus
    refine LS_ix (y := m) (fun h' HL => HL.rdM (lvls_mem3 (rowsI_get hlu hlk)) enI1 (by decide)) enI1 hm h0 rfl rfl fun q2 o2 hrow2 => ?_
    try (dsimp only [st, setL, AV.cells, List.set_cons_zero, List.set_cons_succ, List.drop_zero, List.drop_succ_cons, List.take_zero, List.take_succ_cons, Nat.zero_add, Nat.add_zero, Nat.reduceAdd, List.cons_append, List.nil_append, List.eraseIdx_cons_zero, List.eraseIdx_cons_succ])
    refine W ?_
    refine LS_lkp 1 Try.underlying51 Try.underlying3 ze22 rfl rfl rfl ?_
    try (dsimp only [st, setL, AV.cells, List.set_cons_zero, List.set_cons_succ, List.drop_zero, List.drop_succ_cons, List.take_zero, List.take_succ_cons, Nat.zero_add, Nat.add_zero, Nat.reduceAdd, List.cons_append, List.nil_append, List.eraseIdx_cons_zero, List.eraseIdx_cons_succ])
    refine W ?_
    rw [hfu, Option.getD_some]
    refine LS_have (fun h' HL => (HL.rdM (rows_mem3 (rowsI_get hu (colI_get hpu))) enI1 (by decide)).len) fun hlen3 => ?_
    refine W ?_
    refine LIL_ind (fun j a L => ∃ (nx : AV) (us' : List AV) (s' : List Int × List (Int × List Int)) (jj : Int), (∃ r : Nat → AV, a = [.i .i64 256, r 1, r 2, r 3, .m rf, lv, nx, r 7, .i .i64 m, r 9, r 10, r 11, r 12, r 13, r 14, r 15, r 16, r 17, r 18, r 19, r 20, r 21, r 22, lu, .i .i64 lvk.length, .i .i64 i, r 26, r 27, r 28, r 29, r 30, u, .i .i64 p.2.length, .i .i64 jj, r 34, r 35, r 36, r 37, r 38, r 39, r 40, r 41, r 42, r 43, r 44, r 45, r 46, r 47, r 48, r 49, r 50, r 51, r 52, r 53, r 54, r 55, r 56, r 57, r 58, r 59, r 60, r 61, r 62, r 63, r 64, r 65, r 66, r 67, r 68, r 69, r 70, r 71, r 72]) ∧ L = .sl nx 1 (s'.1.flatMap enI) :: tabI rf s'.2 us' :: .sl lv 1 (ls.flatMap enV) :: (rowsI us' (colI s'.2) ++ rowsI ls (lvls (k + 1))) ∧ 0 ≤ jj ∧ jj + j = p.2.length ∧ s' = (p.2.take jj.toNat).foldl (wayA 256 m p.2) s ∧ us'.length = s'.2.length ∧ lenA nx = some s'.1.length ∧ nx.sc = true ∧ TS ws0 s' (13 * i.toNat + jj.toNat) ∧ us'[iu]? = some u ∧ s'.2[iu]? = some p)
      p.2.length ⟨nx, us, s, 0, exJ rfl, rfl, by omega, by omega, by simp, hus, lnx, snx, hT.mono (by omega), hu, hpu⟩ ?_
    rintro j3 a _ ⟨nx, us', s', jj, ⟨r, rfl⟩, rfl, h0j, hj3, hs', hus', lnx, snx, hT', hu', hpu'⟩ IH3
    refine W ?_
    (first | refine LS_gt rfl ?_ ?_ | refine LS_gf rfl ?_ ?_ | refine LI_cond rfl ?_ ?_) <;> intro hc <;> have hc' := hc <;> try simp only [decide_eq_true_eq, decide_eq_false_iff_not, Bool.not_eq_true', Bool.not_eq_false', Bool.not_eq_true, Bool.not_eq_false, beq_iff_eq, bne_iff_ne, beq_eq_false_iff_ne, bne_eq_false_iff_eq, Int.not_lt, Int.not_le, ge_iff_le, gt_iff_lt, not_and, ne_eq, Decidable.not_not] at hc'
    all_goals (try (dsimp only [st, setL, AV.cells, List.set_cons_zero, List.set_cons_succ, List.drop_zero, List.drop_succ_cons, List.take_zero, List.take_succ_cons, Nat.zero_add, Nat.add_zero, Nat.reduceAdd, List.cons_append, List.nil_append, List.eraseIdx_cons_zero, List.eraseIdx_cons_succ]))
    all_goals (refine W ?_)
    · obtain ⟨x, hx, hxm, _⟩ := drop_at (l := p.2) h0j hc'
      have hxb := hpw.2.2 x hxm
      have hnl := hT'.nl
      have hTs := hT'.step (x := x) hmb hxb hpw.2
      have hsn : (p.2.take (jj + 1).toNat).foldl (wayA 256 m p.2) s = wayA 256 m p.2 s' x := by rw [toNat_succ h0j, take_snoc hx, List.foldl_append, ← hs']; rfl
      refine LS_ix (y := x) (fun h' HL => HL.rdM (rows_mem3 (rowsI_get hu' (colI_get hpu'))) enI1 (by decide)) enI1 hx h0j rfl rfl fun q3 o3 hrow3 => ?_
      try (dsimp only [st, setL, AV.cells, List.set_cons_zero, List.set_cons_succ, List.drop_zero, List.drop_succ_cons, List.take_zero, List.take_succ_cons, Nat.zero_add, Nat.add_zero, Nat.reduceAdd, List.cons_append, List.nil_append, List.eraseIdx_cons_zero, List.eraseIdx_cons_succ])
      refine W ?_
      by_cases hle : m + x ≤ 256
      · first | (refine LS_gyH rfl (decide_eq_true hle) ?_; intro hg) | (refine LI_cond_tH rfl (decide_eq_true hle) ?_; intro hg)
        refine W ?_
        refine LS_lkp 1 Try.underlying51 Try.underlying3 ze22 rfl rfl rfl ?_
        try (dsimp only [st, setL, AV.cells, List.set_cons_zero, List.set_cons_succ, List.drop_zero, List.drop_succ_cons, List.take_zero, List.take_succ_cons, Nat.zero_add, Nat.add_zero, Nat.reduceAdd, List.cons_append, List.nil_append, List.eraseIdx_cons_zero, List.eraseIdx_cons_succ])
        refine W ?_
        rcases findE (m + x) hus' with ⟨f1, f2⟩ | ⟨iw, uw, pw, f1, f2, f3, f4⟩
        · have hnew : wayA 256 m p.2 s' x = (s'.1 ++ [m + x], s'.2 ++ [(m + x, p.2 ++ [m + x])]) := by rw [wayA, if_pos ⟨hle, f2⟩]
          rw [hnew] at hTs hsn
          obtain ⟨i2, u2, k1, k2, k3⟩ := hfind hT' hus'
          rw [f1, Option.getD_none]
          refine LS_snl rfl rfl true true (.inl ⟨rfl, rfl⟩) (.inl ⟨rfl, rfl⟩) ?_
          try (dsimp only [st, setL, AV.cells, List.set_cons_zero, List.set_cons_succ, List.drop_zero, List.drop_succ_cons, List.take_zero, List.take_succ_cons, Nat.zero_add, Nat.add_zero, Nat.reduceAdd, List.cons_append, List.nil_append, List.eraseIdx_cons_zero, List.eraseIdx_cons_succ])
          refine W ?_
          refine LS_lkp 1 Try.underlying51 Try.underlying3 ze22 rfl rfl rfl ?_
          try (dsimp only [st, setL, AV.cells, List.set_cons_zero, List.set_cons_succ, List.drop_zero, List.drop_succ_cons, List.take_zero, List.take_succ_cons, Nat.zero_add, Nat.add_zero, Nat.reduceAdd, List.cons_append, List.nil_append, List.eraseIdx_cons_zero, List.eraseIdx_cons_succ])
          refine W ?_
          rw [k3, Option.getD_some]
          refine LS_co (fun h' HL wf => Clone_int_ac p.2 u2 h' (HL.rdM (rows_mem3 (rowsI_get k1 (colI_get k2))) enI1 (by decide)) (by omega)) enI1 rfl rfl fun wq lwq swq => ?_
          try (dsimp only [st, setL, AV.cells, List.set_cons_zero, List.set_cons_succ, List.drop_zero, List.drop_succ_cons, List.take_zero, List.take_succ_cons, Nat.zero_add, Nat.add_zero, Nat.reduceAdd, List.cons_append, List.nil_append, List.eraseIdx_cons_zero, List.eraseIdx_cons_succ])
          refine W ?_
          refine LS_lt [m + x] rfl rfl (by decide) rfl rfl rfl rfl enI1 rfl rfl fun wl lwl swl => ?_
          try (dsimp only [st, setL, AV.cells, List.set_cons_zero, List.set_cons_succ, List.drop_zero, List.drop_succ_cons, List.take_zero, List.take_succ_cons, Nat.zero_add, Nat.add_zero, Nat.reduceAdd, List.cons_append, List.nil_append, List.eraseIdx_cons_zero, List.eraseIdx_cons_succ])
          refine W ?_
          refine LS_ap 1 rfl (fun h' HL => HL.rdI 0 rfl enI1 (by decide)) enI1 (by decide) (by simp) (by simp; omega) (by simp; omega) rfl rfl rfl fun wz lwz swz => ?_
          try (dsimp only [st, setL, AV.cells, List.set_cons_zero, List.set_cons_succ, List.drop_zero, List.drop_succ_cons, List.take_zero, List.take_succ_cons, Nat.zero_add, Nat.add_zero, Nat.reduceAdd, List.cons_append, List.nil_append, List.eraseIdx_cons_zero, List.eraseIdx_cons_succ])
          refine W ?_
          refine LS_mput 3 Try.underlying51 Try.underlying3 rfl rfl rfl rfl ?_
          try (dsimp only [st, setL, AV.cells, List.set_cons_zero, List.set_cons_succ, List.drop_zero, List.drop_succ_cons, List.take_zero, List.take_succ_cons, Nat.zero_add, Nat.add_zero, Nat.reduceAdd, List.cons_append, List.nil_append, List.eraseIdx_cons_zero, List.eraseIdx_cons_succ])
          refine W ?_
          rw [putE (l := p.2 ++ [m + x]) hus' f1]
          refine LS_lt [m + x] rfl rfl (by decide) rfl rfl rfl rfl enI1 rfl rfl fun wm lwm swm => ?_
          try (dsimp only [st, setL, AV.cells, List.set_cons_zero, List.set_cons_succ, List.drop_zero, List.drop_succ_cons, List.take_zero, List.take_succ_cons, Nat.zero_add, Nat.add_zero, Nat.reduceAdd, List.cons_append, List.nil_append, List.eraseIdx_cons_zero, List.eraseIdx_cons_succ])
          refine W ?_
          refine LS_ap 3 rfl (fun h' HL => HL.rdI 0 rfl enI1 (by decide)) enI1 (by decide) (by simp) (by simp; omega) (by simp; omega) rfl rfl rfl fun wn lwn swn => ?_
          try (dsimp only [st, setL, AV.cells, List.set_cons_zero, List.set_cons_succ, List.drop_zero, List.drop_succ_cons, List.take_zero, List.take_succ_cons, Nat.zero_add, Nat.add_zero, Nat.reduceAdd, List.cons_append, List.nil_append, List.eraseIdx_cons_zero, List.eraseIdx_cons_succ])
          refine W ?_
          refine LIL_drop 2 ?_
          refine LIL_push [_, _, _] (by rw [colI_len]; exact hus') ?_
          refine IH3 (j3 - 1) _ _ (by omega) ⟨wn, us' ++ [wz], (s'.1 ++ [m + x], s'.2 ++ [(m + x, p.2 ++ [m + x])]), jj + 1, exJ rfl, by simp only [colI, List.map_append, List.map_cons, List.map_nil]; rfl, by omega, by omega, hsn.symm, by simp [hus'], lwn, swn, hTs.mono (by omega), by rw [List.getElem?_append_left (List.getElem?_eq_some_iff.1 hu').1]; exact hu', by rw [List.getElem?_append_left (List.getElem?_eq_some_iff.1 hpu').1]; exact hpu'⟩
        · have hnew : wayA 256 m p.2 s' x = s' := by rw [wayA, if_neg (fun hc => by rw [f4] at hc; cases hc.2)]
          rw [hnew] at hTs hsn
          rw [f3, Option.getD_some]
          refine LS_have (fun h' HL => (HL.rdM (rows_mem3 (rowsI_get f1 (colI_get f2))) enI1 (by decide)).len) fun hlw => ?_
          have hw1 := (hT'.wb pw (List.mem_of_getElem? f2)).1
          obtain ⟨bq, oq, cq, rfl⟩ := sl_of_len hlw hw1
          refine LS_snl rfl rfl false false (.inr ⟨_, _, _, _, rfl, rfl⟩) (.inl ⟨rfl, rfl⟩) ?_
          try (dsimp only [st, setL, AV.cells, List.set_cons_zero, List.set_cons_succ, List.drop_zero, List.drop_succ_cons, List.take_zero, List.take_succ_cons, Nat.zero_add, Nat.add_zero, Nat.reduceAdd, List.cons_append, List.nil_append, List.eraseIdx_cons_zero, List.eraseIdx_cons_succ])
          refine W ?_
          refine IH3 (j3 - 1) _ _ (by omega) ⟨nx, us', s', jj + 1, exJ rfl, rfl, by omega, by omega, hsn.symm, hus', lnx, snx, hTs.mono (by omega), hu', hpu'⟩
      · have hnew : wayA 256 m p.2 s' x = s' := by rw [wayA, if_neg (fun hc => hle hc.1)]
        rw [hnew] at hTs hsn
        first | (refine LS_gtnH rfl (decide_eq_false hle) ?_; intro hg; try (dsimp only [st, setL, AV.cells, List.set_cons_zero, List.set_cons_succ, List.drop_zero, List.drop_succ_cons, List.take_zero, List.take_succ_cons, Nat.zero_add, Nat.add_zero, Nat.reduceAdd, List.cons_append, List.nil_append, List.eraseIdx_cons_zero, List.eraseIdx_cons_succ])) | (refine LS_gfnH rfl (decide_eq_false hle) ?_; intro hg; try (dsimp only [st, setL, AV.cells, List.set_cons_zero, List.set_cons_succ, List.drop_zero, List.drop_succ_cons, List.take_zero, List.take_succ_cons, Nat.zero_add, Nat.add_zero, Nat.reduceAdd, List.cons_append, List.nil_append, List.eraseIdx_cons_zero, List.eraseIdx_cons_succ])) | (refine LI_cond_fH rfl (decide_eq_false hle) ?_; intro hg)
        refine W ?_
        refine IH3 (j3 - 1) _ _ (by omega) ⟨nx, us', s', jj + 1, exJ rfl, rfl, by omega, by omega, hsn.symm, hus', lnx, snx, hTs.mono (by omega), hu', hpu'⟩
    · have ej : jj.toNat = p.2.length := by omega
      rw [ej, List.take_length] at hs'
      have hsF : (lvk.take (i + 1).toNat).foldl (wayF 256) ([], ws0) = s' := by rw [toNat_succ h0, take_snoc hm, List.foldl_append, ← hs]; show wayF 256 s m = s'; rw [wayF, hwo, hs']
      refine IH2 (j2 - 1) _ _ (by omega) ⟨nx, us', s', i + 1, exJ rfl, rfl, by omega, by omega, hsF.symm, hus', lnx, snx, hT'.mono (by omega)⟩
  · have ei : i.toNat = lvk.length := by omega
    rw [ei, List.take_length, hstep] at hs
    subst hs
    dsimp only at hus lnx hT ⊢
    clear IH2
    by_cases hk : k = 11
    · subst hk
      have eT : treeW.take (treeN (11 + 1)) = treeW := List.take_of_length_le (by rw [treeW_len]; decide)
      have e0 : (treeL (11 + 1)).map (·.1) = [] := tree_end.1
      rw [eT] at hus ⊢
      first | (refine LS_gyH rfl (by rw [e0]; rfl) ?_; intro hg) | (refine LI_cond_tH rfl (by rw [e0]; rfl) ?_; intro hg)
      refine W ?_
      refine RET fun h' HL => ?_
      try dsimp only [oneA]
      exact ⟨_, ⟨rf, lv, us, ls, rfl, by rw [hus, treeW_len], hls, llv, slv, rfl⟩, HL.tail⟩
    · have hne := tree_end.2 (k + 1) (by omega)
      have hlp : 0 < ((treeL (k + 1)).map (·.1)).length := List.length_pos_iff.2 hne
      have hnl := treeL_len (k + 1) (by omega)
      first | (refine LS_gtnH rfl (beq_eq_false_iff_ne.2 (by omega)) ?_; intro hg; try (dsimp only [st, setL, AV.cells, List.set_cons_zero, List.set_cons_succ, List.drop_zero, List.drop_succ_cons, List.take_zero, List.take_succ_cons, Nat.zero_add, Nat.add_zero, Nat.reduceAdd, List.cons_append, List.nil_append, List.eraseIdx_cons_zero, List.eraseIdx_cons_succ])) | (refine LS_gfnH rfl (beq_eq_false_iff_ne.2 (by omega)) ?_; intro hg; try (dsimp only [st, setL, AV.cells, List.set_cons_zero, List.set_cons_succ, List.drop_zero, List.drop_succ_cons, List.take_zero, List.take_succ_cons, Nat.zero_add, Nat.add_zero, Nat.reduceAdd, List.cons_append, List.nil_append, List.eraseIdx_cons_zero, List.eraseIdx_cons_succ])) | (refine LI_cond_fH rfl (beq_eq_false_iff_ne.2 (by omega)) ?_; intro hg)
      refine W ?_
      refine LS_ltV rfl rfl snx rfl fun w4 lw4 sw4 => ?_
      try (dsimp only [st, setL, AV.cells, List.set_cons_zero, List.set_cons_succ, List.drop_zero, List.drop_succ_cons, List.take_zero, List.take_succ_cons, Nat.zero_add, Nat.add_zero, Nat.reduceAdd, List.cons_append, List.nil_append, List.eraseIdx_cons_zero, List.eraseIdx_cons_succ])
      refine W ?_
      refine LS_ap 3 rfl (fun h' HL => HL.rdI 0 rfl enV1 (by decide)) enV1 (by decide) (by simp) (by simp; omega) (by simp; omega) rfl rfl rfl fun w5 lw5 sw5 => ?_
      try (dsimp only [st, setL, AV.cells, List.set_cons_zero, List.set_cons_succ, List.drop_zero, List.drop_succ_cons, List.take_zero, List.take_succ_cons, Nat.zero_add, Nat.add_zero, Nat.reduceAdd, List.cons_append, List.nil_append, List.eraseIdx_cons_zero, List.eraseIdx_cons_succ])
      refine W ?_
      refine LIL_drop 1 (LIL_perm (perm_last _ _ _ _ _) ?_)
      refine IH (j - 1) _ _ (by omega) ⟨k + 1, w5, us, ls ++ [nx], exJ rfl, by rw [lvls_succ (k + 1), rowsI_snoc nx (lvl (k + 1)) (by simp [lvls, hls])]; rfl, by omega, by omega, hus, by simp [hls], lw5, sw5⟩

/-! ### Paths and levels of the tree; the binary star chain -/
def tpR (n : Int) : List Int := if shOk n = true then wayOf treeW n else []

theorem treeW_has : ∀ n : Nat, n < 101 → n = 0 ∨ (treeW.find? (fun e => e.1 == (n : Int))).isSome = true := by decide +kernel

theorem implTP_ac (n : Int) (h : AH) : AC Try.prog 25 [.i .i64 n] h (fun r h' => ∃ M, TupI (tpR n) (shOk n) r M ∧ Loq h h' M) := by
  refine e25 _ fun wf => ?_
  unfold c25
  refine LI_start wf ?_
  refine W ?_
  refine LS_c0' (fun h' HL wf => isShort_ac n h') rfl rfl ?_
  try (dsimp only [st, setL, AV.cells, List.set_cons_zero, List.set_cons_succ, List.drop_zero, List.drop_succ_cons, List.take_zero, List.take_succ_cons, Nat.zero_add, Nat.add_zero, Nat.reduceAdd, List.cons_append, List.nil_append, List.eraseIdx_cons_zero, List.eraseIdx_cons_succ])
  refine W ?_
  (first | refine LS_gt rfl ?_ ?_ | refine LS_gf rfl ?_ ?_ | refine LI_cond rfl ?_ ?_) <;> intro hc <;> have hc' := hc <;> try simp only [decide_eq_true_eq, decide_eq_false_iff_not, Bool.not_eq_true', Bool.not_eq_false', Bool.not_eq_true, Bool.not_eq_false, beq_iff_eq, bne_iff_ne, beq_eq_false_iff_ne, bne_eq_false_iff_eq, Int.not_lt, Int.not_le, ge_iff_le, gt_iff_lt, not_and, ne_eq, Decidable.not_not] at hc'
  all_goals (try (dsimp only [st, setL, AV.cells, List.set_cons_zero, List.set_cons_succ, List.drop_zero, List.drop_succ_cons, List.take_zero, List.take_succ_cons, Nat.zero_add, Nat.add_zero, Nat.reduceAdd, List.cons_append, List.nil_append, List.eraseIdx_cons_zero, List.eraseIdx_cons_succ]))
  all_goals (refine W ?_)
  · have e : shOk n = false := nt hc
    rw [tpR, e, if_neg (by simp)]
    refine RET fun h' HL => ?_
    try dsimp only [oneA]
    exact TupI.none HL
  · have e : shOk n = true := nf hc
    have hn : 1 ≤ n ∧ n ≤ 100 := by simpa [shOk] using e
    rw [tpR, e, if_pos rfl]
    refine LS_c1 (fun h' HL wf => treeWays_ac h') rfl rfl ?_
    try (dsimp only [st, setL, AV.cells, List.set_cons_zero, List.set_cons_succ, List.drop_zero, List.drop_succ_cons, List.take_zero, List.take_succ_cons, Nat.zero_add, Nat.add_zero, Nat.reduceAdd, List.cons_append, List.nil_append, List.eraseIdx_cons_zero, List.eraseIdx_cons_succ])
    refine W ?_
    rintro _ _ ⟨rr, lv, us, ls, rfl, hus, hls, llv, slv, rfl⟩
    try (dsimp only [st, setL, AV.cells, List.set_cons_zero, List.set_cons_succ, List.drop_zero, List.drop_succ_cons, List.take_zero, List.take_succ_cons, Nat.zero_add, Nat.add_zero, Nat.reduceAdd, List.cons_append, List.nil_append, List.eraseIdx_cons_zero, List.eraseIdx_cons_succ])
    refine W ?_
    refine LS_lkp 0 Try.underlying51 Try.underlying3 ze22 rfl rfl rfl ?_
    try (dsimp only [st, setL, AV.cells, List.set_cons_zero, List.set_cons_succ, List.drop_zero, List.drop_succ_cons, List.take_zero, List.take_succ_cons, Nat.zero_add, Nat.add_zero, Nat.reduceAdd, List.cons_append, List.nil_append, List.eraseIdx_cons_zero, List.eraseIdx_cons_succ])
    refine W ?_
    rcases findE (ws := treeW) (us := us) n (by rw [hus, treeW_len]) with ⟨_, f2⟩ | ⟨i, u, p, f1, f2, f3, f4⟩
    · exfalso
      rcases treeW_has n.toNat (by omega) with h0 | h0
      · omega
      · rw [show ((n.toNat : Nat) : Int) = n by omega, f2] at h0; cases h0
    · rw [f3, Option.getD_some, wayOf, f4]
      refine RET fun h' HL => ?_
      try dsimp only [oneA]
      exact TupI.of (HL.ownM (List.mem_cons_of_mem _ (List.mem_cons_of_mem _ (List.mem_append_left _ (List.mem_append_left _ (rowsI_get f1 (colI_get f2)))))) enI1 (by decide))

/-! ### The power tree: the reference's walk -/
theorem putNL : ∀ (l : List Int) (n : Int), putN n l = putL l n
  | [], n => rfl
  | x :: l, n => by rw [putN, putL, putNL l n]

theorem l1PutN_ac (l : List Int) (n : Int) (v : AV) (h : AH) (hR : Rd h v l) (hl : l.length ≤ 1048576) (hnm : n ∉ l) :
    AC Try.prog 91 [v, .i .i64 n] h (fun r h' => Own h 1 enI h' r (putL l n)) := by
  have hRl := hR.len
  refine e91 _ _ fun wf => ?_
  unfold c91
  refine LI_start wf ?_
  refine W ?_
  refine LIL_ind (fun m a L => ∃ (k : Int), (∃ r : Nat → AV, a = [v, .i .i64 n, r 2, r 3, r 4, .i .i64 k, r 6, r 7, r 8, r 9, r 10, r 11, r 12, r 13, r 14, r 15, r 16, r 17, r 18, r 19, r 20, r 21, r 22, r 23, r 24, r 25, r 26, r 27, r 28, r 29, r 30, r 31, r 32, r 33, r 34, r 35, r 36, r 37, r 38, r 39, r 40, r 41, r 42, r 43, r 44, r 45, r 46, r 47]) ∧ L = [] ∧ 0 ≤ k ∧ k + m = l.length ∧ (∀ x ∈ l.take k.toNat, x < n))
    l.length ⟨0, exJ rfl, rfl, by omega, by omega, by simp⟩ ?_
  rintro m a L ⟨k, ⟨r, rfl⟩, rfl, h0', hm, hlt⟩ IH
  have hput := putL_at k.toNat l n hlt
  have htl : (l.take k.toNat).length = k.toNat := by rw [List.length_take]; omega
  have hdl : (l.drop k.toNat).length = l.length - k.toNat := List.length_drop
  refine W ?_
  (first | refine LS_gt rfl ?_ ?_ | refine LS_gf rfl ?_ ?_ | refine LI_cond rfl ?_ ?_) <;> intro hc <;> have hc' := hc <;> try simp only [decide_eq_true_eq, decide_eq_false_iff_not, Bool.not_eq_true', Bool.not_eq_false', Bool.not_eq_true, Bool.not_eq_false, beq_iff_eq, bne_iff_ne, beq_eq_false_iff_ne, bne_eq_false_iff_eq, Int.not_lt, Int.not_le, ge_iff_le, gt_iff_lt, not_and, ne_eq, Decidable.not_not] at hc'
  all_goals (try (dsimp only [st, setL, AV.cells, List.set_cons_zero, List.set_cons_succ, List.drop_zero, List.drop_succ_cons, List.take_zero, List.take_succ_cons, Nat.zero_add, Nat.add_zero, Nat.reduceAdd, List.cons_append, List.nil_append, List.eraseIdx_cons_zero, List.eraseIdx_cons_succ]))
  all_goals (refine W ?_)
  · obtain ⟨y, hy, hym, hd⟩ := drop_at (l := l) h0' hc'
    refine LS_ix (fun h' HL => hR.le HL.le) enI1 hy h0' rfl rfl fun q o hrow => ?_
    try (dsimp only [st, setL, AV.cells, List.set_cons_zero, List.set_cons_succ, List.drop_zero, List.drop_succ_cons, List.take_zero, List.take_succ_cons, Nat.zero_add, Nat.add_zero, Nat.reduceAdd, List.cons_append, List.nil_append, List.eraseIdx_cons_zero, List.eraseIdx_cons_succ])
    refine W ?_
    (first | refine LS_gt rfl ?_ ?_ | refine LS_gf rfl ?_ ?_ | refine LI_cond rfl ?_ ?_) <;> intro hc <;> have hc' := hc <;> try simp only [decide_eq_true_eq, decide_eq_false_iff_not, Bool.not_eq_true', Bool.not_eq_false', Bool.not_eq_true, Bool.not_eq_false, beq_iff_eq, bne_iff_ne, beq_eq_false_iff_ne, bne_eq_false_iff_eq, Int.not_lt, Int.not_le, ge_iff_le, gt_iff_lt, not_and, ne_eq, Decidable.not_not] at hc'
    all_goals (try (dsimp only [st, setL, AV.cells, List.set_cons_zero, List.set_cons_succ, List.drop_zero, List.drop_succ_cons, List.take_zero, List.take_succ_cons, Nat.zero_add, Nat.add_zero, Nat.reduceAdd, List.cons_append, List.nil_append, List.eraseIdx_cons_zero, List.eraseIdx_cons_succ]))
    all_goals (refine W ?_)
    · refine IH (m - 1) _ _ (by omega) ⟨k + 1, exJ rfl, rfl, by omega, by omega, by rw [toNat_succ h0']; exact take_lt hy hlt hc'⟩
    · have hny : ¬ y < n := by omega
      refine LS_ix (fun h' HL => hR.le HL.le) enI1 hy h0' rfl rfl fun q o hrow => ?_
      try (dsimp only [st, setL, AV.cells, List.set_cons_zero, List.set_cons_succ, List.drop_zero, List.drop_succ_cons, List.take_zero, List.take_succ_cons, Nat.zero_add, Nat.add_zero, Nat.reduceAdd, List.cons_append, List.nil_append, List.eraseIdx_cons_zero, List.eraseIdx_cons_succ])
      refine W ?_
      (first | refine LS_gt rfl ?_ ?_ | refine LS_gf rfl ?_ ?_ | refine LI_cond rfl ?_ ?_) <;> intro hc <;> have hc' := hc <;> try simp only [decide_eq_true_eq, decide_eq_false_iff_not, Bool.not_eq_true', Bool.not_eq_false', Bool.not_eq_true, Bool.not_eq_false, beq_iff_eq, bne_iff_ne, beq_eq_false_iff_ne, bne_eq_false_iff_eq, Int.not_lt, Int.not_le, ge_iff_le, gt_iff_lt, not_and, ne_eq, Decidable.not_not] at hc'
      all_goals (try (dsimp only [st, setL, AV.cells, List.set_cons_zero, List.set_cons_succ, List.drop_zero, List.drop_succ_cons, List.take_zero, List.take_succ_cons, Nat.zero_add, Nat.add_zero, Nat.reduceAdd, List.cons_append, List.nil_append, List.eraseIdx_cons_zero, List.eraseIdx_cons_succ]))
      all_goals (refine W ?_)
      · exact absurd (hc' ▸ hym) hnm
      · have e : putL l n = ([] ++ (l.take k.toNat).drop 0 ++ [n]) ++ (l.take l.length).drop k.toNat := by
          rw [hput, hd]
          simp only [putL, if_neg hny, if_neg hc']
          rw [← hd]
          simp
        refine LS_lt ([] : List Int) rfl rfl (by decide) rfl rfl rfl rfl enI1 rfl rfl fun lit1 hlit1 slit1 => ?_
        try (dsimp only [st, setL, AV.cells, List.set_cons_zero, List.set_cons_succ, List.drop_zero, List.drop_succ_cons, List.take_zero, List.take_succ_cons, Nat.zero_add, Nat.add_zero, Nat.reduceAdd, List.cons_append, List.nil_append, List.eraseIdx_cons_zero, List.eraseIdx_cons_succ])
        refine W ?_
        refine LS_sz (u := k.toNat) (fun h' HL => hR.le HL.le) enI1 (.inl ⟨rfl, rfl⟩) (.inr ⟨_, _, _, rfl, rfl, h0', rfl⟩) (by omega) (by omega) rfl fun w1 hw1 sw1 rw1 => ?_
        try (dsimp only [st, setL, AV.cells, List.set_cons_zero, List.set_cons_succ, List.drop_zero, List.drop_succ_cons, List.take_zero, List.take_succ_cons, Nat.zero_add, Nat.add_zero, Nat.reduceAdd, List.cons_append, List.nil_append, List.eraseIdx_cons_zero, List.eraseIdx_cons_succ])
        refine W ?_
        refine LS_ap0 0 rfl (fun h' HL => rw1 h' (hR.le HL.le)) enI1 (by decide) (by simp; omega) (by simp; omega) rfl rfl rfl fun w2 hw2 sw2 => ?_
        try (dsimp only [st, setL, AV.cells, List.set_cons_zero, List.set_cons_succ, List.drop_zero, List.drop_succ_cons, List.take_zero, List.take_succ_cons, Nat.zero_add, Nat.add_zero, Nat.reduceAdd, List.cons_append, List.nil_append, List.eraseIdx_cons_zero, List.eraseIdx_cons_succ])
        refine W ?_
        refine LS_lt [n] rfl rfl (by decide) rfl rfl rfl rfl enI1 rfl rfl fun lit4 hlit4 slit4 => ?_
        try (dsimp only [st, setL, AV.cells, List.set_cons_zero, List.set_cons_succ, List.drop_zero, List.drop_succ_cons, List.take_zero, List.take_succ_cons, Nat.zero_add, Nat.add_zero, Nat.reduceAdd, List.cons_append, List.nil_append, List.eraseIdx_cons_zero, List.eraseIdx_cons_succ])
        refine W ?_
        refine LS_ap 1 rfl (fun h' HL => HL.rdI 0 rfl enI1 (by decide)) enI1 (by decide) (by simp) (by simp; omega) (by simp; omega) rfl rfl rfl fun w5 hw5 sw5 => ?_
        try (dsimp only [st, setL, AV.cells, List.set_cons_zero, List.set_cons_succ, List.drop_zero, List.drop_succ_cons, List.take_zero, List.take_succ_cons, Nat.zero_add, Nat.add_zero, Nat.reduceAdd, List.cons_append, List.nil_append, List.eraseIdx_cons_zero, List.eraseIdx_cons_succ])
        refine W ?_
        refine LS_sz (u := l.length) (q := k.toNat) (fun h' HL => hR.le HL.le) enI1 (.inr ⟨_, _, _, rfl, rfl, h0', rfl⟩) (.inl ⟨rfl, rfl⟩) (by omega) (by omega) rfl fun w6 hw6 sw6 rw6 => ?_
        try (dsimp only [st, setL, AV.cells, List.set_cons_zero, List.set_cons_succ, List.drop_zero, List.drop_succ_cons, List.take_zero, List.take_succ_cons, Nat.zero_add, Nat.add_zero, Nat.reduceAdd, List.cons_append, List.nil_append, List.eraseIdx_cons_zero, List.eraseIdx_cons_succ])
        refine W ?_
        refine LS_ap0 1 rfl (fun h' HL => rw6 h' (hR.le HL.le)) enI1 (by decide) (by simp; omega) (by simp; omega) rfl rfl rfl fun w7 hw7 sw7 => ?_
        try (dsimp only [st, setL, AV.cells, List.set_cons_zero, List.set_cons_succ, List.drop_zero, List.drop_succ_cons, List.take_zero, List.take_succ_cons, Nat.zero_add, Nat.add_zero, Nat.reduceAdd, List.cons_append, List.nil_append, List.eraseIdx_cons_zero, List.eraseIdx_cons_succ])
        refine W ?_
        refine RET fun h' HL => ?_
        try dsimp only [oneA]
        rw [e]
        exact HL.ownI 1 rfl enI1 (by decide)
  · have hk : k.toNat = l.length := by omega
    have e : putL l n = ([] ++ (l.take k.toNat).drop 0 ++ [n]) ++ (l.take l.length).drop k.toNat := by
      rw [hput, hk]
      simp [putL]
    refine LS_lt ([] : List Int) rfl rfl (by decide) rfl rfl rfl rfl enI1 rfl rfl fun lit1 hlit1 slit1 => ?_
    try (dsimp only [st, setL, AV.cells, List.set_cons_zero, List.set_cons_succ, List.drop_zero, List.drop_succ_cons, List.take_zero, List.take_succ_cons, Nat.zero_add, Nat.add_zero, Nat.reduceAdd, List.cons_append, List.nil_append, List.eraseIdx_cons_zero, List.eraseIdx_cons_succ])
    refine W ?_
    refine LS_sz (u := k.toNat) (fun h' HL => hR.le HL.le) enI1 (.inl ⟨rfl, rfl⟩) (.inr ⟨_, _, _, rfl, rfl, h0', rfl⟩) (by omega) (by omega) rfl fun w1 hw1 sw1 rw1 => ?_
    try (dsimp only [st, setL, AV.cells, List.set_cons_zero, List.set_cons_succ, List.drop_zero, List.drop_succ_cons, List.take_zero, List.take_succ_cons, Nat.zero_add, Nat.add_zero, Nat.reduceAdd, List.cons_append, List.nil_append, List.eraseIdx_cons_zero, List.eraseIdx_cons_succ])
    refine W ?_
    refine LS_ap0 0 rfl (fun h' HL => rw1 h' (hR.le HL.le)) enI1 (by decide) (by simp; omega) (by simp; omega) rfl rfl rfl fun w2 hw2 sw2 => ?_
    try (dsimp only [st, setL, AV.cells, List.set_cons_zero, List.set_cons_succ, List.drop_zero, List.drop_succ_cons, List.take_zero, List.take_succ_cons, Nat.zero_add, Nat.add_zero, Nat.reduceAdd, List.cons_append, List.nil_append, List.eraseIdx_cons_zero, List.eraseIdx_cons_succ])
    refine W ?_
    refine LS_lt [n] rfl rfl (by decide) rfl rfl rfl rfl enI1 rfl rfl fun lit4 hlit4 slit4 => ?_
    try (dsimp only [st, setL, AV.cells, List.set_cons_zero, List.set_cons_succ, List.drop_zero, List.drop_succ_cons, List.take_zero, List.take_succ_cons, Nat.zero_add, Nat.add_zero, Nat.reduceAdd, List.cons_append, List.nil_append, List.eraseIdx_cons_zero, List.eraseIdx_cons_succ])
    refine W ?_
    refine LS_ap 1 rfl (fun h' HL => HL.rdI 0 rfl enI1 (by decide)) enI1 (by decide) (by simp) (by simp; omega) (by simp; omega) rfl rfl rfl fun w5 hw5 sw5 => ?_
    try (dsimp only [st, setL, AV.cells, List.set_cons_zero, List.set_cons_succ, List.drop_zero, List.drop_succ_cons, List.take_zero, List.take_succ_cons, Nat.zero_add, Nat.add_zero, Nat.reduceAdd, List.cons_append, List.nil_append, List.eraseIdx_cons_zero, List.eraseIdx_cons_succ])
    refine W ?_
    refine LS_sz (u := l.length) (q := k.toNat) (fun h' HL => hR.le HL.le) enI1 (.inr ⟨_, _, _, rfl, rfl, h0', rfl⟩) (.inl ⟨rfl, rfl⟩) (by omega) (by omega) rfl fun w6 hw6 sw6 rw6 => ?_
    try (dsimp only [st, setL, AV.cells, List.set_cons_zero, List.set_cons_succ, List.drop_zero, List.drop_succ_cons, List.take_zero, List.take_succ_cons, Nat.zero_add, Nat.add_zero, Nat.reduceAdd, List.cons_append, List.nil_append, List.eraseIdx_cons_zero, List.eraseIdx_cons_succ])
    refine W ?_
    refine LS_ap0 1 rfl (fun h' HL => rw6 h' (hR.le HL.le)) enI1 (by decide) (by simp; omega) (by simp; omega) rfl rfl rfl fun w7 hw7 sw7 => ?_
    try (dsimp only [st, setL, AV.cells, List.set_cons_zero, List.set_cons_succ, List.drop_zero, List.drop_succ_cons, List.take_zero, List.take_succ_cons, Nat.zero_add, Nat.add_zero, Nat.reduceAdd, List.cons_append, List.nil_append, List.eraseIdx_cons_zero, List.eraseIdx_cons_succ])
    refine W ?_
    refine RET fun h' HL => ?_
    try dsimp only [oneA]
    rw [e]
    exact HL.ownI 1 rfl enI1 (by decide)

def TB (T : List (List Int) × List Int) : Prop := T.1.length ≤ 1000 ∧ (∀ p ∈ T.1, 1 ≤ p.length ∧ p.length ≤ 20 ∧ ∀ x ∈ p, 0 ≤ x ∧ x ≤ 1048576) ∧ T.2.length ≤ 1000

theorem growA_in {path : List Int} {s : List (List Int) × List Int} {x : Int} (h : lastD path + x ∈ s.2) : growA path s x = s := by rw [growA, if_pos h]

theorem growA_out {path : List Int} {s : List (List Int) × List Int} {x : Int} (h : lastD path + x ∉ s.2) : growA path s x = (s.1 ++ [path ++ [lastD path + x]], putL s.2 (lastD path + x)) := by rw [growA, if_neg h, putNL]

theorem growA_len {path : List Int} {s : List (List Int) × List Int} {x : Int} : (growA path s x).1.length ≤ s.1.length + 1 ∧ (growA path s x).2.length ≤ s.2.length + 1 := by
  by_cases h : lastD path + x ∈ s.2
  · rw [growA_in h]; omega
  · rw [growA_out h]
    have := putL_len s.2 (lastD path + x)
    simp; omega

theorem conv_g1 {h0 h : AH} (g1 g2 x y z1 z2 z3 : It) (R A : List It) (H : Loq h0 h (g1 :: g2 :: x :: y :: z1 :: z2 :: z3 :: (R ++ A))) : Loq h0 h (x :: z1 :: z2 :: z3 :: (R ++ [y])) := by
  have H1 := H.sub (M := x :: y :: z1 :: z2 :: z3 :: R) (.cons _ (.cons _ (.cons_cons _ (.cons_cons _ (.cons_cons _ (.cons_cons _ (.cons_cons _ (List.sublist_append_left _ _))))))))
  refine H1.perm (.cons _ ?_)
  have e : z1 :: z2 :: z3 :: (R ++ [y]) = (z1 :: z2 :: z3 :: R) ++ [y] := by simp
  rw [e]
  exact (List.perm_append_singleton y _).symm

theorem conv_g2 {h0 h : AH} (g1 g2 x y z1 z2 z3 : It) (R A : List It) (H : Loq h0 h (g1 :: x :: g2 :: y :: z1 :: z2 :: z3 :: (R ++ A))) : Loq h0 h (x :: z1 :: z2 :: z3 :: (R ++ [y])) := conv_g1 g1 g2 x y z1 z2 z3 R A (H.perm (.cons _ (.swap _ _ _)))

theorem grow_ac (T : List (List Int) × List Int) (lv al : AV) (us : List AV) (h : AH) (hR : RdSS h lv T.1 us) (hal : Rd h al T.2) (hB : TB T) (hne : (growT T).1 ≠ []) :
    AC Try.prog 64 [.agg [lv, al]] h (fun r h' => ∃ M, (∃ (o av : AV) (us' : List AV), r = .agg [o, av] ∧ us'.length = (growT T).1.length ∧ lenA o = some us'.length ∧ o.sc = true ∧ av.sc = true ∧ M = .sl o 1 (us'.flatMap enV) :: (rowsI us' (growT T).1 ++ [.sl av 1 ((growT T).2.flatMap enI)])) ∧ Loq h h' M) := by
  obtain ⟨hB1, hB2, hB3⟩ := hB
  have slv := rd_sc hR.outer
  have sal := rd_sc hal
  have hlv := hR.outer.len
  have hul := hR.len
  refine e64 _ fun wf => ?_
  unfold c64
  refine LI_start wf ?_
  refine W ?_
  refine LS_bxn rfl (sc_cons slv (sc_cons sal rfl)) fun b1 => ?_
  try (dsimp only [st, setL, AV.cells, List.set_cons_zero, List.set_cons_succ, List.drop_zero, List.drop_succ_cons, List.take_zero, List.take_succ_cons, Nat.zero_add, Nat.add_zero, Nat.reduceAdd, List.cons_append, List.nil_append, List.eraseIdx_cons_zero, List.eraseIdx_cons_succ])
  refine W ?_
  refine LS_al rfl fun b2 => ?_
  try (dsimp only [st, setL, AV.cells, List.set_cons_zero, List.set_cons_succ, List.drop_zero, List.drop_succ_cons, List.take_zero, List.take_succ_cons, Nat.zero_add, Nat.add_zero, Nat.reduceAdd, List.cons_append, List.nil_append, List.eraseIdx_cons_zero, List.eraseIdx_cons_succ])
  refine W ?_
  refine LS_al rfl fun b3 => ?_
  try (dsimp only [st, setL, AV.cells, List.set_cons_zero, List.set_cons_succ, List.drop_zero, List.drop_succ_cons, List.take_zero, List.take_succ_cons, Nat.zero_add, Nat.add_zero, Nat.reduceAdd, List.cons_append, List.nil_append, List.eraseIdx_cons_zero, List.eraseIdx_cons_succ])
  refine W ?_
  refine LIL_nl (k := 1) ?_
  refine LIL_conv (L' := .pt b3 [.ns, al] :: .pt b2 [.ns, .ns] :: .sl .ns 1 (([] : List AV).flatMap enV) :: (rowsI [] [] ++ [])) (fun h' HL => by have := HL.sel [1, 2, 0] (by decide); simp only [rowsI, List.append_nil, List.flatMap_nil]; exact this) ?_
  refine LIL_ind (fun k a L => ∃ (o av : AV) (us' : List AV) (A : List It) (s : List (List Int) × List Int) (i : Int), (∃ r : Nat → AV, a = [r 0, r 1, .p b2 0, .p b3 0, r 4, r 5, r 6, r 7, r 8, r 9, r 10, r 11, r 12, lv, .i .i64 us.length, .i .i64 i, r 16, r 17, r 18, r 19, r 20, r 21, r 22, r 23, r 24, r 25, r 26, r 27, r 28, r 29, r 30, r 31, r 32, r 33, r 34, r 35, r 36, r 37, r 38, r 39, r 40, r 41, r 42, r 43, r 44, r 45, r 46, r 47, r 48, r 49, r 50, r 51, r 52, r 53, r 54, r 55, r 56, r 57, r 58, r 59]) ∧ L = .pt b3 [o, av] :: .pt b2 [.ns, .ns] :: .sl o 1 (us'.flatMap enV) :: (rowsI us' s.1 ++ A) ∧ 0 ≤ i ∧ i + k = us.length ∧ s = (T.1.take i.toNat).foldl (fun s path => path.foldl (growA path) s) ([], T.2) ∧ us'.length = s.1.length ∧ lenA o = some us'.length ∧ o.sc = true ∧ av.sc = true ∧ ((A = [] ∧ av = al ∧ s.1 = [] ∧ s.2 = T.2) ∨ A = [.sl av 1 (s.2.flatMap enI)]) ∧ s.1.length ≤ 20 * i.toNat ∧ s.2.length ≤ T.2.length + 20 * i.toNat)
    us.length ⟨.ns, al, [], [], ([], T.2), 0, exJ rfl, rfl, by omega, by omega, by simp, rfl, rfl, rfl, sal, .inl ⟨rfl, rfl, rfl, rfl⟩, by simp, by simp⟩ ?_
  rintro k a _ ⟨o, av, us', A, s, i, ⟨r, rfl⟩, rfl, h0, hk, hs, hus, lo, so, sav, hA, hb1, hb2⟩ IH
  refine W ?_
  (first | refine LS_gt rfl ?_ ?_ | refine LS_gf rfl ?_ ?_ | refine LI_cond rfl ?_ ?_) <;> intro hc <;> have hc' := hc <;> try simp only [decide_eq_true_eq, decide_eq_false_iff_not, Bool.not_eq_true', Bool.not_eq_false', Bool.not_eq_true, Bool.not_eq_false, beq_iff_eq, bne_iff_ne, beq_eq_false_iff_ne, bne_eq_false_iff_eq, Int.not_lt, Int.not_le, ge_iff_le, gt_iff_lt, not_and, ne_eq, Decidable.not_not] at hc'
  all_goals (try (dsimp only [st, setL, AV.cells, List.set_cons_zero, List.set_cons_succ, List.drop_zero, List.drop_succ_cons, List.take_zero, List.take_succ_cons, Nat.zero_add, Nat.add_zero, Nat.reduceAdd, List.cons_append, List.nil_append, List.eraseIdx_cons_zero, List.eraseIdx_cons_succ]))
  all_goals (refine W ?_)
  · obtain ⟨path, hpath⟩ := at_ (l := T.1) (i := i.toNat) (by omega)
    obtain ⟨u, hu⟩ := at_ (l := us) (i := i.toNat) (by omega)
    obtain ⟨hp1, hp2, hp3⟩ := hB2 path (List.mem_of_getElem? hpath)
    have hRu := hR.row _ _ _ hu hpath
    have hlu := hRu.len
    have hil : i.toNat < 1000 := by have := (List.getElem?_eq_some_iff.1 hpath).1; omega
    have hli : path[((path.length : Int) - 1).toNat]? = some (lastD path) := by rw [show ((path.length : Int) - 1).toNat = path.length - 1 by omega]; exact lastD_idx (by omega) rfl
    have hlb := hp3 _ (List.mem_of_getElem? hli)
    refine LS_ix (fun h' HL => hR.outer.le HL.le) enV1 hu h0 rfl rfl fun q1 o1 hrow1 => ?_
    try (dsimp only [st, setL, AV.cells, List.set_cons_zero, List.set_cons_succ, List.drop_zero, List.drop_succ_cons, List.take_zero, List.take_succ_cons, Nat.zero_add, Nat.add_zero, Nat.reduceAdd, List.cons_append, List.nil_append, List.eraseIdx_cons_zero, List.eraseIdx_cons_succ])
    refine W ?_
    refine LS_ix (fun h' HL => hRu.le HL.le) enI1 hli (by omega) rfl rfl fun q2 o2 hrow2 => ?_
    try (dsimp only [st, setL, AV.cells, List.set_cons_zero, List.set_cons_succ, List.drop_zero, List.drop_succ_cons, List.take_zero, List.take_succ_cons, Nat.zero_add, Nat.add_zero, Nat.reduceAdd, List.cons_append, List.nil_append, List.eraseIdx_cons_zero, List.eraseIdx_cons_succ])
    refine W ?_
    refine LIL_ind (fun k a L => ∃ (o av : AV) (us' : List AV) (A : List It) (s' : List (List Int) × List Int) (j : Int), (∃ r : Nat → AV, a = [r 0, r 1, .p b2 0, .p b3 0, r 4, u, .i .i64 (lastD path), r 7, r 8, r 9, r 10, r 11, r 12, lv, .i .i64 us.length, .i .i64 i, r 16, r 17, r 18, r 19, r 20, r 21, r 22, r 23, r 24, u, .i .i64 path.length, .i .i64 j, r 28, r 29, r 30, r 31, r 32, r 33, r 34, r 35, r 36, r 37, r 38, r 39, r 40, r 41, r 42, r 43, r 44, r 45, r 46, r 47, r 48, r 49, r 50, r 51, r 52, r 53, r 54, r 55, r 56, r 57, r 58, r 59]) ∧ L = .pt b3 [o, av] :: .pt b2 [.ns, .ns] :: .sl o 1 (us'.flatMap enV) :: (rowsI us' s'.1 ++ A) ∧ 0 ≤ j ∧ j + k = path.length ∧ s' = (path.take j.toNat).foldl (growA path) s ∧ us'.length = s'.1.length ∧ lenA o = some us'.length ∧ o.sc = true ∧ av.sc = true ∧ ((A = [] ∧ av = al ∧ s'.1 = [] ∧ s'.2 = T.2) ∨ A = [.sl av 1 (s'.2.flatMap enI)]) ∧ s'.1.length ≤ 20 * i.toNat + j.toNat ∧ s'.2.length ≤ T.2.length + 20 * i.toNat + j.toNat)
      path.length ⟨o, av, us', A, s, 0, exJ rfl, rfl, by omega, by omega, by simp, hus, lo, so, sav, hA, by omega, by omega⟩ ?_
    clear hA lo so sav hus
    rintro k2 a _ ⟨o, av, us', A, s', j, ⟨r, rfl⟩, rfl, h0j, hk2, hs', hus, lo, so, sav, hA, hb3, hb4⟩ IH2
    have hrA : ∀ h2, Loq h h2 A → Rd h2 av s'.2 := by
      rcases hA with ⟨e1, e2, e3, e4⟩ | e1
      · intro h2 HL; rw [e2, e4]; exact hal.le HL.le
      · intro h2 HL; rw [e1] at HL; exact HL.rdI 0 rfl enI1 (by decide)
    refine W ?_
    (first | refine LS_gt rfl ?_ ?_ | refine LS_gf rfl ?_ ?_ | refine LI_cond rfl ?_ ?_) <;> intro hc <;> have hc' := hc <;> try simp only [decide_eq_true_eq, decide_eq_false_iff_not, Bool.not_eq_true', Bool.not_eq_false', Bool.not_eq_true, Bool.not_eq_false, beq_iff_eq, bne_iff_ne, beq_eq_false_iff_ne, bne_eq_false_iff_eq, Int.not_lt, Int.not_le, ge_iff_le, gt_iff_lt, not_and, ne_eq, Decidable.not_not] at hc'
    all_goals (try (dsimp only [st, setL, AV.cells, List.set_cons_zero, List.set_cons_succ, List.drop_zero, List.drop_succ_cons, List.take_zero, List.take_succ_cons, Nat.zero_add, Nat.add_zero, Nat.reduceAdd, List.cons_append, List.nil_append, List.eraseIdx_cons_zero, List.eraseIdx_cons_succ]))
    all_goals (refine W ?_)
    · obtain ⟨x, hx, hxm, _⟩ := drop_at (l := path) h0j hc'
      have hxb := hp3 x hxm
      have hsn : (path.take (j + 1).toNat).foldl (growA path) s = growA path s' x := by rw [toNat_succ h0j, take_snoc hx, List.foldl_append, ← hs']; rfl
      have hgl := growA_len (path := path) (s := s') (x := x)
      refine LS_ix (fun h' HL => hRu.le HL.le) enI1 hx h0j rfl rfl fun q3 o3 hrow3 => ?_
      try (dsimp only [st, setL, AV.cells, List.set_cons_zero, List.set_cons_succ, List.drop_zero, List.drop_succ_cons, List.take_zero, List.take_succ_cons, Nat.zero_add, Nat.add_zero, Nat.reduceAdd, List.cons_append, List.nil_append, List.eraseIdx_cons_zero, List.eraseIdx_cons_succ])
      refine W ?_
      refine LS_c0 (fun h' HL wf => l1Has_ac s'.2 av (lastD path + x) h' (hrA _ (HL.sub (.cons _ (.cons _ (.cons _ (List.sublist_append_right _ _)))))) (by omega)) rfl rfl ?_
      try (dsimp only [st, setL, AV.cells, List.set_cons_zero, List.set_cons_succ, List.drop_zero, List.drop_succ_cons, List.take_zero, List.take_succ_cons, Nat.zero_add, Nat.add_zero, Nat.reduceAdd, List.cons_append, List.nil_append, List.eraseIdx_cons_zero, List.eraseIdx_cons_succ])
      refine W ?_
      by_cases hm : lastD path + x ∈ s'.2
      · have ha : (s'.2.any fun y => y == lastD path + x) = true := List.any_eq_true.2 ⟨_, hm, by simp⟩
        rw [growA_in hm] at hsn
        rw [ha]
        refine W ?_
        refine IH2 (k2 - 1) _ _ (by omega) ⟨o, av, us', A, s', j + 1, exJ rfl, rfl, by omega, by omega, hsn.symm, hus, lo, so, sav, hA, by omega, by omega⟩
      · have ha : (s'.2.any fun y => y == lastD path + x) = false := by
          rw [Bool.eq_false_iff]
          intro e
          obtain ⟨y, hy, e⟩ := List.any_eq_true.1 e
          exact hm (by rw [← (beq_iff_eq.1 e)]; exact hy)
        rw [growA_out hm] at hsn hgl
        rw [ha]
        refine W ?_
        refine LS_co (fun h' HL wf => l1PutN_ac s'.2 (lastD path + x) av h' (hrA _ (HL.sub (.cons _ (.cons _ (.cons _ (List.sublist_append_right _ _)))))) (by omega) hm) enI1 rfl rfl fun av2 lav2 sav2 => ?_
        try (dsimp only [st, setL, AV.cells, List.set_cons_zero, List.set_cons_succ, List.drop_zero, List.drop_succ_cons, List.take_zero, List.take_succ_cons, Nat.zero_add, Nat.add_zero, Nat.reduceAdd, List.cons_append, List.nil_append, List.eraseIdx_cons_zero, List.eraseIdx_cons_succ])
        refine W ?_
        refine LI_post (fun a L => ∃ (o2 wq : AV), (∃ r : Nat → AV, a = [r 0, r 1, .p b2 0, .p b3 0, r 4, u, .i .i64 (lastD path), r 7, r 8, r 9, r 10, r 11, r 12, lv, .i .i64 us.length, .i .i64 i, r 16, r 17, r 18, r 19, r 20, r 21, r 22, r 23, r 24, u, .i .i64 path.length, .i .i64 j, r 28, r 29, r 30, r 31, r 32, r 33, r 34, r 35, r 36, r 37, r 38, r 39, r 40, r 41, r 42, r 43, r 44, r 45, r 46, r 47, r 48, r 49, r 50, r 51, r 52, r 53, r 54, r 55, r 56, r 57, r 58, r 59]) ∧ lenA o2 = some (us' ++ [wq]).length ∧ o2.sc = true ∧ ∀ h', Loq h h' L → Loq h h' (.sl wq 1 ((path ++ [lastD path + x]).flatMap enI) :: .pt b3 [o2, av2] :: .pt b2 [.ns, .ns] :: .sl o2 1 ((us' ++ [wq]).flatMap enV) :: (rowsI us' s'.1 ++ [.sl av2 1 ((putL s'.2 (lastD path + x)).flatMap enI)]))) ?_ ?_
        · refine db64_0 [] (by simp) ?_
          refine WX ?_
          refine LX_two ?_ ?_
          · refine WX ?_
            refine LX_l1e 1 noG rfl rfl rfl ?_
            try (dsimp only [st, setL, AV.cells, List.set_cons_zero, List.set_cons_succ, List.drop_zero, List.drop_succ_cons, List.take_zero, List.take_succ_cons, Nat.zero_add, Nat.add_zero, Nat.reduceAdd, List.cons_append, List.nil_append, List.eraseIdx_cons_zero, List.eraseIdx_cons_succ])
            refine WX ?_
            refine W ?_
            refine LX_two ?_ ?_
            · refine WX ?_
              refine LX_f noG (LO_co (fun h' HL wf => l1Own_ac path u h' (hRu.le HL.le) (by omega)) enI1 rfl rfl fun wq0 lwq0 swq0 => ?_)
              try (dsimp only [st, setL, AV.cells, List.set_cons_zero, List.set_cons_succ, List.drop_zero, List.drop_succ_cons, List.take_zero, List.take_succ_cons, Nat.zero_add, Nat.add_zero, Nat.reduceAdd, List.cons_append, List.nil_append, List.eraseIdx_cons_zero, List.eraseIdx_cons_succ])
              refine WX ?_
              refine W ?_
              refine LX_f noG (LO_lt [lastD path + x] rfl rfl (by decide) rfl rfl rfl rfl enI1 rfl rfl fun wl lwl swl => ?_)
              try (dsimp only [st, setL, AV.cells, List.set_cons_zero, List.set_cons_succ, List.drop_zero, List.drop_succ_cons, List.take_zero, List.take_succ_cons, Nat.zero_add, Nat.add_zero, Nat.reduceAdd, List.cons_append, List.nil_append, List.eraseIdx_cons_zero, List.eraseIdx_cons_succ])
              refine WX ?_
              refine W ?_
              refine LX_f noG (LO_ap (l' := [lastD path + x]) 1 rfl (fun h' HL => HL.rdI 0 rfl enI1 (by decide)) enI1 (by decide) (by simp) (by simp; omega) (by simp; omega) rfl rfl rfl fun wq lwq swq => ?_)
              try (dsimp only [st, setL, AV.cells, List.set_cons_zero, List.set_cons_succ, List.drop_zero, List.drop_succ_cons, List.take_zero, List.take_succ_cons, Nat.zero_add, Nat.add_zero, Nat.reduceAdd, List.cons_append, List.nil_append, List.eraseIdx_cons_zero, List.eraseIdx_cons_succ])
              refine WX ?_
              refine W ?_
              refine LX_f noG (LO_lt (k := 1) (enc := enV) (cs := [wq]) (ps := [(0, wq)]) [wq] rfl rfl (by decide) rfl (by simp [litA, cells1 swq, swq]) rfl rfl enV1 rfl rfl fun wm lwm swm => ?_)
              try (dsimp only [st, setL, AV.cells, List.set_cons_zero, List.set_cons_succ, List.drop_zero, List.drop_succ_cons, List.take_zero, List.take_succ_cons, Nat.zero_add, Nat.add_zero, Nat.reduceAdd, List.cons_append, List.nil_append, List.eraseIdx_cons_zero, List.eraseIdx_cons_succ])
              refine WX ?_
              refine W ?_
              refine LX_f noG (LO_ap (l' := [wq]) 6 rfl (fun h' HL => HL.rdI 0 rfl enV1 (by decide)) enV1 (by decide) (by simp) (by simp; omega) (by simp; omega) rfl rfl rfl fun o2 lo2 so2 => ?_)
              try (dsimp only [st, setL, AV.cells, List.set_cons_zero, List.set_cons_succ, List.drop_zero, List.drop_succ_cons, List.take_zero, List.take_succ_cons, Nat.zero_add, Nat.add_zero, Nat.reduceAdd, List.cons_append, List.nil_append, List.eraseIdx_cons_zero, List.eraseIdx_cons_succ])
              refine WX ?_
              refine W ?_
              exact ⟨rfl, o2, wq, exJ rfl, lo2, so2, fun h' HL => by first | exact conv_g1 _ _ _ _ _ _ _ _ _ HL | exact conv_g2 _ _ _ _ _ _ _ _ _ HL⟩
            · refine WX ?_
              refine LX_f noG (LO_lt [lastD path + x] rfl rfl (by decide) rfl rfl rfl rfl enI1 rfl rfl fun wl lwl swl => ?_)
              try (dsimp only [st, setL, AV.cells, List.set_cons_zero, List.set_cons_succ, List.drop_zero, List.drop_succ_cons, List.take_zero, List.take_succ_cons, Nat.zero_add, Nat.add_zero, Nat.reduceAdd, List.cons_append, List.nil_append, List.eraseIdx_cons_zero, List.eraseIdx_cons_succ])
              refine WX ?_
              refine W ?_
              refine LX_f noG (LO_co (fun h' HL wf => l1Own_ac path u h' (hRu.le HL.le) (by omega)) enI1 rfl rfl fun wq0 lwq0 swq0 => ?_)
              try (dsimp only [st, setL, AV.cells, List.set_cons_zero, List.set_cons_succ, List.drop_zero, List.drop_succ_cons, List.take_zero, List.take_succ_cons, Nat.zero_add, Nat.add_zero, Nat.reduceAdd, List.cons_append, List.nil_append, List.eraseIdx_cons_zero, List.eraseIdx_cons_succ])
              refine WX ?_
              refine W ?_
              refine LX_f noG (LO_ap (l' := [lastD path + x]) 0 rfl (fun h' HL => HL.rdI 1 rfl enI1 (by decide)) enI1 (by decide) (by simp) (by simp; omega) (by simp; omega) rfl rfl rfl fun wq lwq swq => ?_)
              try (dsimp only [st, setL, AV.cells, List.set_cons_zero, List.set_cons_succ, List.drop_zero, List.drop_succ_cons, List.take_zero, List.take_succ_cons, Nat.zero_add, Nat.add_zero, Nat.reduceAdd, List.cons_append, List.nil_append, List.eraseIdx_cons_zero, List.eraseIdx_cons_succ])
              refine WX ?_
              refine W ?_
              refine LX_f noG (LO_lt (k := 1) (enc := enV) (cs := [wq]) (ps := [(0, wq)]) [wq] rfl rfl (by decide) rfl (by simp [litA, cells1 swq, swq]) rfl rfl enV1 rfl rfl fun wm lwm swm => ?_)
              try (dsimp only [st, setL, AV.cells, List.set_cons_zero, List.set_cons_succ, List.drop_zero, List.drop_succ_cons, List.take_zero, List.take_succ_cons, Nat.zero_add, Nat.add_zero, Nat.reduceAdd, List.cons_append, List.nil_append, List.eraseIdx_cons_zero, List.eraseIdx_cons_succ])
              refine WX ?_
              refine W ?_
              refine LX_f noG (LO_ap (l' := [wq]) 6 rfl (fun h' HL => HL.rdI 0 rfl enV1 (by decide)) enV1 (by decide) (by simp) (by simp; omega) (by simp; omega) rfl rfl rfl fun o2 lo2 so2 => ?_)
              try (dsimp only [st, setL, AV.cells, List.set_cons_zero, List.set_cons_succ, List.drop_zero, List.drop_succ_cons, List.take_zero, List.take_succ_cons, Nat.zero_add, Nat.add_zero, Nat.reduceAdd, List.cons_append, List.nil_append, List.eraseIdx_cons_zero, List.eraseIdx_cons_succ])
              refine WX ?_
              refine W ?_
              exact ⟨rfl, o2, wq, exJ rfl, lo2, so2, fun h' HL => by first | exact conv_g1 _ _ _ _ _ _ _ _ _ HL | exact conv_g2 _ _ _ _ _ _ _ _ _ HL⟩
          · refine WX ?_
            refine LX_two ?_ ?_
            · refine WX ?_
              refine LX_f noG (LO_co (fun h' HL wf => l1Own_ac path u h' (hRu.le HL.le) (by omega)) enI1 rfl rfl fun wq0 lwq0 swq0 => ?_)
              try (dsimp only [st, setL, AV.cells, List.set_cons_zero, List.set_cons_succ, List.drop_zero, List.drop_succ_cons, List.take_zero, List.take_succ_cons, Nat.zero_add, Nat.add_zero, Nat.reduceAdd, List.cons_append, List.nil_append, List.eraseIdx_cons_zero, List.eraseIdx_cons_succ])
              refine WX ?_
              refine W ?_
              refine LX_two ?_ ?_
              · refine WX ?_
                refine LX_l1e 2 noG rfl rfl rfl ?_
                try (dsimp only [st, setL, AV.cells, List.set_cons_zero, List.set_cons_succ, List.drop_zero, List.drop_succ_cons, List.take_zero, List.take_succ_cons, Nat.zero_add, Nat.add_zero, Nat.reduceAdd, List.cons_append, List.nil_append, List.eraseIdx_cons_zero, List.eraseIdx_cons_succ])
                refine WX ?_
                refine W ?_
                refine LX_f noG (LO_lt [lastD path + x] rfl rfl (by decide) rfl rfl rfl rfl enI1 rfl rfl fun wl lwl swl => ?_)
                try (dsimp only [st, setL, AV.cells, List.set_cons_zero, List.set_cons_succ, List.drop_zero, List.drop_succ_cons, List.take_zero, List.take_succ_cons, Nat.zero_add, Nat.add_zero, Nat.reduceAdd, List.cons_append, List.nil_append, List.eraseIdx_cons_zero, List.eraseIdx_cons_succ])
                refine WX ?_
                refine W ?_
                refine LX_f noG (LO_ap (l' := [lastD path + x]) 1 rfl (fun h' HL => HL.rdI 0 rfl enI1 (by decide)) enI1 (by decide) (by simp) (by simp; omega) (by simp; omega) rfl rfl rfl fun wq lwq swq => ?_)
                try (dsimp only [st, setL, AV.cells, List.set_cons_zero, List.set_cons_succ, List.drop_zero, List.drop_succ_cons, List.take_zero, List.take_succ_cons, Nat.zero_add, Nat.add_zero, Nat.reduceAdd, List.cons_append, List.nil_append, List.eraseIdx_cons_zero, List.eraseIdx_cons_succ])
                refine WX ?_
                refine W ?_
                refine LX_f noG (LO_lt (k := 1) (enc := enV) (cs := [wq]) (ps := [(0, wq)]) [wq] rfl rfl (by decide) rfl (by simp [litA, cells1 swq, swq]) rfl rfl enV1 rfl rfl fun wm lwm swm => ?_)
                try (dsimp only [st, setL, AV.cells, List.set_cons_zero, List.set_cons_succ, List.drop_zero, List.drop_succ_cons, List.take_zero, List.take_succ_cons, Nat.zero_add, Nat.add_zero, Nat.reduceAdd, List.cons_append, List.nil_append, List.eraseIdx_cons_zero, List.eraseIdx_cons_succ])
                refine WX ?_
                refine W ?_
                refine LX_f noG (LO_ap (l' := [wq]) 6 rfl (fun h' HL => HL.rdI 0 rfl enV1 (by decide)) enV1 (by decide) (by simp) (by simp; omega) (by simp; omega) rfl rfl rfl fun o2 lo2 so2 => ?_)
                try (dsimp only [st, setL, AV.cells, List.set_cons_zero, List.set_cons_succ, List.drop_zero, List.drop_succ_cons, List.take_zero, List.take_succ_cons, Nat.zero_add, Nat.add_zero, Nat.reduceAdd, List.cons_append, List.nil_append, List.eraseIdx_cons_zero, List.eraseIdx_cons_succ])
                refine WX ?_
                refine W ?_
                exact ⟨rfl, o2, wq, exJ rfl, lo2, so2, fun h' HL => by first | exact conv_g1 _ _ _ _ _ _ _ _ _ HL | exact conv_g2 _ _ _ _ _ _ _ _ _ HL⟩
              · refine WX ?_
                refine LX_f noG (LO_lt [lastD path + x] rfl rfl (by decide) rfl rfl rfl rfl enI1 rfl rfl fun wl lwl swl => ?_)
                try (dsimp only [st, setL, AV.cells, List.set_cons_zero, List.set_cons_succ, List.drop_zero, List.drop_succ_cons, List.take_zero, List.take_succ_cons, Nat.zero_add, Nat.add_zero, Nat.reduceAdd, List.cons_append, List.nil_append, List.eraseIdx_cons_zero, List.eraseIdx_cons_succ])
                refine WX ?_
                refine W ?_
                refine LX_two ?_ ?_
                · refine WX ?_
                  refine LX_l1e 3 noG rfl rfl rfl ?_
                  try (dsimp only [st, setL, AV.cells, List.set_cons_zero, List.set_cons_succ, List.drop_zero, List.drop_succ_cons, List.take_zero, List.take_succ_cons, Nat.zero_add, Nat.add_zero, Nat.reduceAdd, List.cons_append, List.nil_append, List.eraseIdx_cons_zero, List.eraseIdx_cons_succ])
                  refine WX ?_
                  refine W ?_
                  refine LX_f noG (LO_ap (l' := [lastD path + x]) 1 rfl (fun h' HL => HL.rdI 0 rfl enI1 (by decide)) enI1 (by decide) (by simp) (by simp; omega) (by simp; omega) rfl rfl rfl fun wq lwq swq => ?_)
                  try (dsimp only [st, setL, AV.cells, List.set_cons_zero, List.set_cons_succ, List.drop_zero, List.drop_succ_cons, List.take_zero, List.take_succ_cons, Nat.zero_add, Nat.add_zero, Nat.reduceAdd, List.cons_append, List.nil_append, List.eraseIdx_cons_zero, List.eraseIdx_cons_succ])
                  refine WX ?_
                  refine W ?_
                  refine LX_f noG (LO_lt (k := 1) (enc := enV) (cs := [wq]) (ps := [(0, wq)]) [wq] rfl rfl (by decide) rfl (by simp [litA, cells1 swq, swq]) rfl rfl enV1 rfl rfl fun wm lwm swm => ?_)
                  try (dsimp only [st, setL, AV.cells, List.set_cons_zero, List.set_cons_succ, List.drop_zero, List.drop_succ_cons, List.take_zero, List.take_succ_cons, Nat.zero_add, Nat.add_zero, Nat.reduceAdd, List.cons_append, List.nil_append, List.eraseIdx_cons_zero, List.eraseIdx_cons_succ])
                  refine WX ?_
                  refine W ?_
                  refine LX_f noG (LO_ap (l' := [wq]) 6 rfl (fun h' HL => HL.rdI 0 rfl enV1 (by decide)) enV1 (by decide) (by simp) (by simp; omega) (by simp; omega) rfl rfl rfl fun o2 lo2 so2 => ?_)
                  try (dsimp only [st, setL, AV.cells, List.set_cons_zero, List.set_cons_succ, List.drop_zero, List.drop_succ_cons, List.take_zero, List.take_succ_cons, Nat.zero_add, Nat.add_zero, Nat.reduceAdd, List.cons_append, List.nil_append, List.eraseIdx_cons_zero, List.eraseIdx_cons_succ])
                  refine WX ?_
                  refine W ?_
                  exact ⟨rfl, o2, wq, exJ rfl, lo2, so2, fun h' HL => by first | exact conv_g1 _ _ _ _ _ _ _ _ _ HL | exact conv_g2 _ _ _ _ _ _ _ _ _ HL⟩
                · refine WX ?_
                  refine LX_f noG (LO_ap (l' := [lastD path + x]) 1 rfl (fun h' HL => HL.rdI 0 rfl enI1 (by decide)) enI1 (by decide) (by simp) (by simp; omega) (by simp; omega) rfl rfl rfl fun wq lwq swq => ?_)
                  try (dsimp only [st, setL, AV.cells, List.set_cons_zero, List.set_cons_succ, List.drop_zero, List.drop_succ_cons, List.take_zero, List.take_succ_cons, Nat.zero_add, Nat.add_zero, Nat.reduceAdd, List.cons_append, List.nil_append, List.eraseIdx_cons_zero, List.eraseIdx_cons_succ])
                  refine WX ?_
                  refine W ?_
                  refine LX_two ?_ ?_
                  · refine WX ?_
                    refine LX_l1e 3 noG rfl rfl rfl ?_
                    try (dsimp only [st, setL, AV.cells, List.set_cons_zero, List.set_cons_succ, List.drop_zero, List.drop_succ_cons, List.take_zero, List.take_succ_cons, Nat.zero_add, Nat.add_zero, Nat.reduceAdd, List.cons_append, List.nil_append, List.eraseIdx_cons_zero, List.eraseIdx_cons_succ])
                    refine WX ?_
                    refine W ?_
                    refine LX_f noG (LO_lt (k := 1) (enc := enV) (cs := [wq]) (ps := [(0, wq)]) [wq] rfl rfl (by decide) rfl (by simp [litA, cells1 swq, swq]) rfl rfl enV1 rfl rfl fun wm lwm swm => ?_)
                    try (dsimp only [st, setL, AV.cells, List.set_cons_zero, List.set_cons_succ, List.drop_zero, List.drop_succ_cons, List.take_zero, List.take_succ_cons, Nat.zero_add, Nat.add_zero, Nat.reduceAdd, List.cons_append, List.nil_append, List.eraseIdx_cons_zero, List.eraseIdx_cons_succ])
                    refine WX ?_
                    refine W ?_
                    refine LX_f noG (LO_ap (l' := [wq]) 6 rfl (fun h' HL => HL.rdI 0 rfl enV1 (by decide)) enV1 (by decide) (by simp) (by simp; omega) (by simp; omega) rfl rfl rfl fun o2 lo2 so2 => ?_)
                    try (dsimp only [st, setL, AV.cells, List.set_cons_zero, List.set_cons_succ, List.drop_zero, List.drop_succ_cons, List.take_zero, List.take_succ_cons, Nat.zero_add, Nat.add_zero, Nat.reduceAdd, List.cons_append, List.nil_append, List.eraseIdx_cons_zero, List.eraseIdx_cons_succ])
                    refine WX ?_
                    refine W ?_
                    exact ⟨rfl, o2, wq, exJ rfl, lo2, so2, fun h' HL => by first | exact conv_g1 _ _ _ _ _ _ _ _ _ HL | exact conv_g2 _ _ _ _ _ _ _ _ _ HL⟩
                  · refine WX ?_
                    refine LX_f noG (LO_lt (k := 1) (enc := enV) (cs := [wq]) (ps := [(0, wq)]) [wq] rfl rfl (by decide) rfl (by simp [litA, cells1 swq, swq]) rfl rfl enV1 rfl rfl fun wm lwm swm => ?_)
                    try (dsimp only [st, setL, AV.cells, List.set_cons_zero, List.set_cons_succ, List.drop_zero, List.drop_succ_cons, List.take_zero, List.take_succ_cons, Nat.zero_add, Nat.add_zero, Nat.reduceAdd, List.cons_append, List.nil_append, List.eraseIdx_cons_zero, List.eraseIdx_cons_succ])
                    refine WX ?_
                    refine W ?_
                    refine LX_l1e 4 noG rfl rfl rfl ?_
                    try (dsimp only [st, setL, AV.cells, List.set_cons_zero, List.set_cons_succ, List.drop_zero, List.drop_succ_cons, List.take_zero, List.take_succ_cons, Nat.zero_add, Nat.add_zero, Nat.reduceAdd, List.cons_append, List.nil_append, List.eraseIdx_cons_zero, List.eraseIdx_cons_succ])
                    refine WX ?_
                    refine W ?_
                    refine LX_f noG (LO_ap (l' := [wq]) 6 rfl (fun h' HL => HL.rdI 0 rfl enV1 (by decide)) enV1 (by decide) (by simp) (by simp; omega) (by simp; omega) rfl rfl rfl fun o2 lo2 so2 => ?_)
                    try (dsimp only [st, setL, AV.cells, List.set_cons_zero, List.set_cons_succ, List.drop_zero, List.drop_succ_cons, List.take_zero, List.take_succ_cons, Nat.zero_add, Nat.add_zero, Nat.reduceAdd, List.cons_append, List.nil_append, List.eraseIdx_cons_zero, List.eraseIdx_cons_succ])
                    refine WX ?_
                    refine W ?_
                    exact ⟨rfl, o2, wq, exJ rfl, lo2, so2, fun h' HL => by first | exact conv_g1 _ _ _ _ _ _ _ _ _ HL | exact conv_g2 _ _ _ _ _ _ _ _ _ HL⟩
            · refine WX ?_
              refine LX_f noG (LO_lt [lastD path + x] rfl rfl (by decide) rfl rfl rfl rfl enI1 rfl rfl fun wl lwl swl => ?_)
              try (dsimp only [st, setL, AV.cells, List.set_cons_zero, List.set_cons_succ, List.drop_zero, List.drop_succ_cons, List.take_zero, List.take_succ_cons, Nat.zero_add, Nat.add_zero, Nat.reduceAdd, List.cons_append, List.nil_append, List.eraseIdx_cons_zero, List.eraseIdx_cons_succ])
              refine WX ?_
              refine W ?_
              refine LX_two ?_ ?_
              · refine WX ?_
                refine LX_l1e 2 noG rfl rfl rfl ?_
                try (dsimp only [st, setL, AV.cells, List.set_cons_zero, List.set_cons_succ, List.drop_zero, List.drop_succ_cons, List.take_zero, List.take_succ_cons, Nat.zero_add, Nat.add_zero, Nat.reduceAdd, List.cons_append, List.nil_append, List.eraseIdx_cons_zero, List.eraseIdx_cons_succ])
                refine WX ?_
                refine W ?_
                refine LX_f noG (LO_co (fun h' HL wf => l1Own_ac path u h' (hRu.le HL.le) (by omega)) enI1 rfl rfl fun wq0 lwq0 swq0 => ?_)
                try (dsimp only [st, setL, AV.cells, List.set_cons_zero, List.set_cons_succ, List.drop_zero, List.drop_succ_cons, List.take_zero, List.take_succ_cons, Nat.zero_add, Nat.add_zero, Nat.reduceAdd, List.cons_append, List.nil_append, List.eraseIdx_cons_zero, List.eraseIdx_cons_succ])
                refine WX ?_
                refine W ?_
                refine LX_f noG (LO_ap (l' := [lastD path + x]) 0 rfl (fun h' HL => HL.rdI 1 rfl enI1 (by decide)) enI1 (by decide) (by simp) (by simp; omega) (by simp; omega) rfl rfl rfl fun wq lwq swq => ?_)
                try (dsimp only [st, setL, AV.cells, List.set_cons_zero, List.set_cons_succ, List.drop_zero, List.drop_succ_cons, List.take_zero, List.take_succ_cons, Nat.zero_add, Nat.add_zero, Nat.reduceAdd, List.cons_append, List.nil_append, List.eraseIdx_cons_zero, List.eraseIdx_cons_succ])
                refine WX ?_
                refine W ?_
                refine LX_f noG (LO_lt (k := 1) (enc := enV) (cs := [wq]) (ps := [(0, wq)]) [wq] rfl rfl (by decide) rfl (by simp [litA, cells1 swq, swq]) rfl rfl enV1 rfl rfl fun wm lwm swm => ?_)
                try (dsimp only [st, setL, AV.cells, List.set_cons_zero, List.set_cons_succ, List.drop_zero, List.drop_succ_cons, List.take_zero, List.take_succ_cons, Nat.zero_add, Nat.add_zero, Nat.reduceAdd, List.cons_append, List.nil_append, List.eraseIdx_cons_zero, List.eraseIdx_cons_succ])
                refine WX ?_
                refine W ?_
                refine LX_f noG (LO_ap (l' := [wq]) 6 rfl (fun h' HL => HL.rdI 0 rfl enV1 (by decide)) enV1 (by decide) (by simp) (by simp; omega) (by simp; omega) rfl rfl rfl fun o2 lo2 so2 => ?_)
                try (dsimp only [st, setL, AV.cells, List.set_cons_zero, List.set_cons_succ, List.drop_zero, List.drop_succ_cons, List.take_zero, List.take_succ_cons, Nat.zero_add, Nat.add_zero, Nat.reduceAdd, List.cons_append, List.nil_append, List.eraseIdx_cons_zero, List.eraseIdx_cons_succ])
                refine WX ?_
                refine W ?_
                exact ⟨rfl, o2, wq, exJ rfl, lo2, so2, fun h' HL => by first | exact conv_g1 _ _ _ _ _ _ _ _ _ HL | exact conv_g2 _ _ _ _ _ _ _ _ _ HL⟩
              · refine WX ?_
                refine LX_f noG (LO_co (fun h' HL wf => l1Own_ac path u h' (hRu.le HL.le) (by omega)) enI1 rfl rfl fun wq0 lwq0 swq0 => ?_)
                try (dsimp only [st, setL, AV.cells, List.set_cons_zero, List.set_cons_succ, List.drop_zero, List.drop_succ_cons, List.take_zero, List.take_succ_cons, Nat.zero_add, Nat.add_zero, Nat.reduceAdd, List.cons_append, List.nil_append, List.eraseIdx_cons_zero, List.eraseIdx_cons_succ])
                refine WX ?_
                refine W ?_
                refine LX_two ?_ ?_
                · refine WX ?_
                  refine LX_l1e 3 noG rfl rfl rfl ?_
                  try (dsimp only [st, setL, AV.cells, List.set_cons_zero, List.set_cons_succ, List.drop_zero, List.drop_succ_cons, List.take_zero, List.take_succ_cons, Nat.zero_add, Nat.add_zero, Nat.reduceAdd, List.cons_append, List.nil_append, List.eraseIdx_cons_zero, List.eraseIdx_cons_succ])
                  refine WX ?_
                  refine W ?_
                  refine LX_f noG (LO_ap (l' := [lastD path + x]) 0 rfl (fun h' HL => HL.rdI 1 rfl enI1 (by decide)) enI1 (by decide) (by simp) (by simp; omega) (by simp; omega) rfl rfl rfl fun wq lwq swq => ?_)
                  try (dsimp only [st, setL, AV.cells, List.set_cons_zero, List.set_cons_succ, List.drop_zero, List.drop_succ_cons, List.take_zero, List.take_succ_cons, Nat.zero_add, Nat.add_zero, Nat.reduceAdd, List.cons_append, List.nil_append, List.eraseIdx_cons_zero, List.eraseIdx_cons_succ])
                  refine WX ?_
                  refine W ?_
                  refine LX_f noG (LO_lt (k := 1) (enc := enV) (cs := [wq]) (ps := [(0, wq)]) [wq] rfl rfl (by decide) rfl (by simp [litA, cells1 swq, swq]) rfl rfl enV1 rfl rfl fun wm lwm swm => ?_)
                  try (dsimp only [st, setL, AV.cells, List.set_cons_zero, List.set_cons_succ, List.drop_zero, List.drop_succ_cons, List.take_zero, List.take_succ_cons, Nat.zero_add, Nat.add_zero, Nat.reduceAdd, List.cons_append, List.nil_append, List.eraseIdx_cons_zero, List.eraseIdx_cons_succ])
                  refine WX ?_
                  refine W ?_
                  refine LX_f noG (LO_ap (l' := [wq]) 6 rfl (fun h' HL => HL.rdI 0 rfl enV1 (by decide)) enV1 (by decide) (by simp) (by simp; omega) (by simp; omega) rfl rfl rfl fun o2 lo2 so2 => ?_)
                  try (dsimp only [st, setL, AV.cells, List.set_cons_zero, List.set_cons_succ, List.drop_zero, List.drop_succ_cons, List.take_zero, List.take_succ_cons, Nat.zero_add, Nat.add_zero, Nat.reduceAdd, List.cons_append, List.nil_append, List.eraseIdx_cons_zero, List.eraseIdx_cons_succ])
                  refine WX ?_
                  refine W ?_
                  exact ⟨rfl, o2, wq, exJ rfl, lo2, so2, fun h' HL => by first | exact conv_g1 _ _ _ _ _ _ _ _ _ HL | exact conv_g2 _ _ _ _ _ _ _ _ _ HL⟩
                · refine WX ?_
                  refine LX_f noG (LO_ap (l' := [lastD path + x]) 0 rfl (fun h' HL => HL.rdI 1 rfl enI1 (by decide)) enI1 (by decide) (by simp) (by simp; omega) (by simp; omega) rfl rfl rfl fun wq lwq swq => ?_)
                  try (dsimp only [st, setL, AV.cells, List.set_cons_zero, List.set_cons_succ, List.drop_zero, List.drop_succ_cons, List.take_zero, List.take_succ_cons, Nat.zero_add, Nat.add_zero, Nat.reduceAdd, List.cons_append, List.nil_append, List.eraseIdx_cons_zero, List.eraseIdx_cons_succ])
                  refine WX ?_
                  refine W ?_
                  refine LX_two ?_ ?_
                  · refine WX ?_
                    refine LX_l1e 3 noG rfl rfl rfl ?_
                    try (dsimp only [st, setL, AV.cells, List.set_cons_zero, List.set_cons_succ, List.drop_zero, List.drop_succ_cons, List.take_zero, List.take_succ_cons, Nat.zero_add, Nat.add_zero, Nat.reduceAdd, List.cons_append, List.nil_append, List.eraseIdx_cons_zero, List.eraseIdx_cons_succ])
                    refine WX ?_
                    refine W ?_
                    refine LX_f noG (LO_lt (k := 1) (enc := enV) (cs := [wq]) (ps := [(0, wq)]) [wq] rfl rfl (by decide) rfl (by simp [litA, cells1 swq, swq]) rfl rfl enV1 rfl rfl fun wm lwm swm => ?_)
                    try (dsimp only [st, setL, AV.cells, List.set_cons_zero, List.set_cons_succ, List.drop_zero, List.drop_succ_cons, List.take_zero, List.take_succ_cons, Nat.zero_add, Nat.add_zero, Nat.reduceAdd, List.cons_append, List.nil_append, List.eraseIdx_cons_zero, List.eraseIdx_cons_succ])
                    refine WX ?_
                    refine W ?_
                    refine LX_f noG (LO_ap (l' := [wq]) 6 rfl (fun h' HL => HL.rdI 0 rfl enV1 (by decide)) enV1 (by decide) (by simp) (by simp; omega) (by simp; omega) rfl rfl rfl fun o2 lo2 so2 => ?_)
                    try (dsimp only [st, setL, AV.cells, List.set_cons_zero, List.set_cons_succ, List.drop_zero, List.drop_succ_cons, List.take_zero, List.take_succ_cons, Nat.zero_add, Nat.add_zero, Nat.reduceAdd, List.cons_append, List.nil_append, List.eraseIdx_cons_zero, List.eraseIdx_cons_succ])
                    refine WX ?_
                    refine W ?_
                    exact ⟨rfl, o2, wq, exJ rfl, lo2, so2, fun h' HL => by first | exact conv_g1 _ _ _ _ _ _ _ _ _ HL | exact conv_g2 _ _ _ _ _ _ _ _ _ HL⟩
                  · refine WX ?_
                    refine LX_f noG (LO_lt (k := 1) (enc := enV) (cs := [wq]) (ps := [(0, wq)]) [wq] rfl rfl (by decide) rfl (by simp [litA, cells1 swq, swq]) rfl rfl enV1 rfl rfl fun wm lwm swm => ?_)
                    try (dsimp only [st, setL, AV.cells, List.set_cons_zero, List.set_cons_succ, List.drop_zero, List.drop_succ_cons, List.take_zero, List.take_succ_cons, Nat.zero_add, Nat.add_zero, Nat.reduceAdd, List.cons_append, List.nil_append, List.eraseIdx_cons_zero, List.eraseIdx_cons_succ])
                    refine WX ?_
                    refine W ?_
                    refine LX_l1e 4 noG rfl rfl rfl ?_
                    try (dsimp only [st, setL, AV.cells, List.set_cons_zero, List.set_cons_succ, List.drop_zero, List.drop_succ_cons, List.take_zero, List.take_succ_cons, Nat.zero_add, Nat.add_zero, Nat.reduceAdd, List.cons_append, List.nil_append, List.eraseIdx_cons_zero, List.eraseIdx_cons_succ])
                    refine WX ?_
                    refine W ?_
                    refine LX_f noG (LO_ap (l' := [wq]) 6 rfl (fun h' HL => HL.rdI 0 rfl enV1 (by decide)) enV1 (by decide) (by simp) (by simp; omega) (by simp; omega) rfl rfl rfl fun o2 lo2 so2 => ?_)
                    try (dsimp only [st, setL, AV.cells, List.set_cons_zero, List.set_cons_succ, List.drop_zero, List.drop_succ_cons, List.take_zero, List.take_succ_cons, Nat.zero_add, Nat.add_zero, Nat.reduceAdd, List.cons_append, List.nil_append, List.eraseIdx_cons_zero, List.eraseIdx_cons_succ])
                    refine WX ?_
                    refine W ?_
                    exact ⟨rfl, o2, wq, exJ rfl, lo2, so2, fun h' HL => by first | exact conv_g1 _ _ _ _ _ _ _ _ _ HL | exact conv_g2 _ _ _ _ _ _ _ _ _ HL⟩
        · rintro _ L ⟨o2, wq, ⟨r, rfl⟩, lo2, so2, hL⟩
          refine LBlk_n ?_
          refine W ?_
          refine LIL_conv hL ?_
          refine LIL_push [_, _, _] hus ?_
          refine IH2 (k2 - 1) _ _ (by omega) ⟨o2, av2, us' ++ [wq], [.sl av2 1 ((putL s'.2 (lastD path + x)).flatMap enI)], (s'.1 ++ [path ++ [lastD path + x]], putL s'.2 (lastD path + x)), j + 1, exJ rfl, rfl, by omega, by omega, hsn.symm, by simp [hus], lo2, so2, sav2, .inr rfl, by dsimp only at hgl ⊢; omega, by dsimp only at hgl ⊢; omega⟩
    · have ej : j.toNat = path.length := by omega
      rw [ej, List.take_length] at hs'
      have hsF : (T.1.take (i + 1).toNat).foldl (fun s path => path.foldl (growA path) s) ([], T.2) = s' := by rw [toNat_succ h0, take_snoc hpath, List.foldl_append, ← hs, hs']; rfl
      refine IH (k - 1) _ _ (by omega) ⟨o, av, us', A, s', i + 1, exJ rfl, rfl, by omega, by omega, hsF.symm, hus, lo, so, sav, hA, by omega, by omega⟩
  · have ei : i.toNat = T.1.length := by omega
    have hsT : s = growT T := by rw [hs, ei, List.take_length]; rfl
    rw [hsT] at hA hus ⊢
    rcases hA with ⟨_, _, e, _⟩ | e
    · exact absurd e hne
    · subst e
      refine W ?_
      refine RET fun h' HL => ?_
      try dsimp only [oneA]
      exact ⟨_, ⟨o, av, us', rfl, hus, lo, so, sav, rfl⟩, HL.sub (.cons _ (.cons _ (.refl _)))⟩

/-! ### The reference's tree: levels and paths -/
def treeT9 : List (List Int) := [[1, 2, 3, 5, 7, 14, 19, 38, 57, 71], [1, 2, 3, 5, 7, 14, 19, 38, 57, 95], [1, 2, 3, 5, 7, 14, 19, 38, 57, 114], [1, 2, 3, 5, 7, 14, 19, 38, 76, 77], [1, 2, 3, 5, 7, 14, 19, 38, 76, 79], [1, 2, 3, 5, 7, 14, 19, 38, 76, 152], [1, 2, 3, 5, 7, 14, 21, 35, 70, 91], [1, 2, 3, 5, 7, 14, 21, 35, 70, 105], [1, 2, 3, 5, 7, 14, 21, 35, 70, 140], [1, 2, 3, 5, 7, 14, 21, 42, 47, 89], [1, 2, 3, 5, 7, 14, 21, 42, 47, 94], [1, 2, 3, 5, 7, 14, 21, 42, 63, 126], [1, 2, 3, 5, 7, 14, 21, 42, 84, 87], [1, 2, 3, 5, 7, 14, 21, 42, 84, 168], [1, 2, 3, 5, 7, 14, 28, 29, 58, 116], [1, 2, 3, 5, 7, 14, 28, 31, 59, 118], [1, 2, 3, 5, 7, 14, 28, 31, 62, 93], [1, 2, 3, 5, 7, 14, 28, 31, 62, 124], [1, 2, 3, 5, 7, 14, 28, 56, 61, 117], [1, 2, 3, 5, 7, 14, 28, 56, 61, 122], [1, 2, 3, 5, 7, 14, 28, 56, 112, 113], [1, 2, 3, 5, 7, 14, 28, 56, 112, 115], [1, 2, 3, 5, 7, 14, 28, 56, 112, 119], [1, 2, 3, 5, 7, 14, 28, 56, 112, 224], [1, 2, 3, 5, 10, 11, 22, 44, 55, 110], [1, 2, 3, 5, 10, 11, 22, 44, 88, 176], [1, 2, 3, 5, 10, 13, 23, 46, 69, 138], [1, 2, 3, 5, 10, 13, 23, 46, 92, 184], [1, 2, 3, 5, 10, 13, 26, 39, 78, 156], [1, 2, 3, 5, 10, 13, 26, 52, 53, 106], [1, 2, 3, 5, 10, 13, 26, 52, 104, 107], [1, 2, 3, 5, 10, 13, 26, 52, 104, 109], [1, 2, 3, 5, 10, 13, 26, 52, 104, 208], [1, 2, 3, 5, 10, 15, 25, 50, 75, 125], [1, 2, 3, 5, 10, 15, 25, 50, 75, 150], [1, 2, 3, 5, 10, 15, 25, 50, 100, 101], [1, 2, 3, 5, 10, 15, 25, 50, 100, 103], [1, 2, 3, 5, 10, 15, 25, 50, 100, 200], [1, 2, 3, 5, 10, 15, 30, 45, 90, 135], [1, 2, 3, 5, 10, 15, 30, 45, 90, 180], [1, 2, 3, 5, 10, 15, 30, 60, 120, 121], [1, 2, 3, 5, 10, 15, 30, 60, 120, 123], [1, 2, 3, 5, 10, 15, 30, 60, 120, 240], [1, 2, 3, 5, 10, 20, 40, 41, 81, 162], [1, 2, 3, 5, 10, 20, 40, 41, 82, 164], [1, 2, 3, 5, 10, 20, 40, 43, 83, 166], [1, 2, 3, 5, 10, 20, 40, 43, 86, 172], [1, 2, 3, 5, 10, 20, 40, 80, 85, 165], [1, 2, 3, 5, 10, 20, 40, 80, 85, 170], [1, 2, 3, 5, 10, 20, 40, 80, 160, 161], [1, 2, 3, 5, 10, 20, 40, 80, 160, 163], [1, 2, 3, 5, 10, 20, 40, 80, 160, 320], [1, 2, 3, 6, 9, 18, 27, 54, 108, 111], [1, 2, 3, 6, 9, 18, 27, 54, 108, 216], [1, 2, 3, 6, 9, 18, 36, 37, 73, 146], [1, 2, 3, 6, 9, 18, 36, 37, 74, 148], [1, 2, 3, 6, 9, 18, 36, 72, 144, 145], [1, 2, 3, 6, 9, 18, 36, 72, 144, 147], [1, 2, 3, 6, 9, 18, 36, 72, 144, 153], [1, 2, 3, 6, 9, 18, 36, 72, 144, 288], [1, 2, 3, 6, 12, 24, 48, 49, 97, 194], [1, 2, 3, 6, 12, 24, 48, 49, 98, 196], [1, 2, 3, 6, 12, 24, 48, 51, 99, 198], [1, 2, 3, 6, 12, 24, 48, 51, 102, 204], [1, 2, 3, 6, 12, 24, 48, 96, 192, 193], [1, 2, 3, 6, 12, 24, 48, 96, 192, 195], [1, 2, 3, 6, 12, 24, 48, 96, 192, 384], [1, 2, 4, 8, 16, 17, 33, 66, 67, 133], [1, 2, 4, 8, 16, 17, 33, 66, 67, 134], [1, 2, 4, 8, 16, 17, 33, 66, 132, 149], [1, 2, 4, 8, 16, 17, 33, 66, 132, 264], [1, 2, 4, 8, 16, 17, 34, 68, 136, 137], [1, 2, 4, 8, 16, 17, 34, 68, 136, 272], [1, 2, 4, 8, 16, 32, 64, 65, 129, 131], [1, 2, 4, 8, 16, 32, 64, 65, 129, 258], [1, 2, 4, 8, 16, 32, 64, 65, 130, 260], [1, 2, 4, 8, 16, 32, 64, 128, 256, 257], [1, 2, 4, 8, 16, 32, 64, 128, 256, 512]]

theorem treeS9 : (growT ((treeL 8).map (·.2), treeA 8)).1 = treeT9 ∧ (growT ((treeL 8).map (·.2), treeA 8)).2.length ≤ 1000 := by decide +kernel

theorem treeTB : ∀ k : Nat, k < 9 → ((treeL k).map (·.2)).length ≤ 1000 ∧ (∀ p ∈ (treeL k).map (·.2), 1 ≤ p.length ∧ p.length ≤ 20 ∧ ∀ x ∈ p, 0 ≤ x ∧ x ≤ 1048576) ∧ (treeA k).length ≤ 1000 := by decide +kernel

theorem treeTB9 : treeT9.length ≤ 1000 ∧ (∀ p ∈ treeT9, 1 ≤ p.length ∧ p.length ≤ 20 ∧ ∀ x ∈ p, 0 ≤ x ∧ x ≤ 1048576) := by decide +kernel

theorem treeS_9 : treeS 9 = growT ((treeL 8).map (·.2), treeA 8) := by rw [← treeS_eq 8 (by omega)]; rfl

theorem treeS_TB (k : Nat) (hk : k ≤ 9) : TB (treeS k) := by
  by_cases h : k = 9
  · subst h
    rw [treeS_9]
    refine ⟨by rw [treeS9.1]; exact treeTB9.1, by rw [treeS9.1]; exact treeTB9.2, treeS9.2⟩
  · rw [treeS_eq k (by omega)]
    exact treeTB k (by omega)

theorem treeS_ne (k : Nat) (hk : k ≤ 8) : (growT (treeS k)).1 ≠ [] := by
  by_cases h : k = 8
  · subst h
    rw [treeS_eq 8 (by omega), treeS9.1]
    decide
  · show (treeS (k + 1)).1 ≠ []
    rw [treeS_eq (k + 1) (by omega)]
    intro e
    have h2 := tree_end.2 (k + 1) (by omega)
    have : treeL (k + 1) = [] := List.map_eq_nil_iff.1 e
    rw [this] at h2
    exact h2 rfl

def treeI (us : List AV) (lv al : AV) (T : List (List Int) × List Int) : List It := .sl lv 1 (us.flatMap enV) :: (rowsI us T.1 ++ [.sl al 1 (T.2.flatMap enI)])

theorem treeI_ss {h0 h : AH} {us : List AV} {lv al : AV} {T : List (List Int) × List Int} {A : List It} (H : Loq h0 h (A ++ treeI us lv al T)) (hl : us.length = T.1.length) : RdSS h lv T.1 us ∧ Rd h al T.2 :=
  ⟨H.ss (List.mem_append_right _ (by simp [treeI])) (fun x hx => List.mem_append_right _ (by simp [treeI, hx])) hl, H.rdM (List.mem_append_right _ (by simp [treeI])) enI1 (by decide)⟩

theorem shRoot_ac (h : AH) : AC Try.prog 63 [] h (fun r h' => ∃ M, (∃ (o av : AV) (us' : List AV), r = .agg [o, av] ∧ us'.length = (treeS 0).1.length ∧ lenA o = some us'.length ∧ o.sc = true ∧ av.sc = true ∧ M = treeI us' o av (treeS 0)) ∧ Loq h h' M) := by
  refine e63 fun wf => ?_
  unfold c63
  refine LI_start wf ?_
  refine W ?_
  refine LS_al rfl fun b0 => ?_
  try (dsimp only [st, setL, AV.cells, List.set_cons_zero, List.set_cons_succ, List.drop_zero, List.drop_succ_cons, List.take_zero, List.take_succ_cons, Nat.zero_add, Nat.add_zero, Nat.reduceAdd, List.cons_append, List.nil_append, List.eraseIdx_cons_zero, List.eraseIdx_cons_succ])
  refine W ?_
  refine LS_lt [1] rfl rfl (by decide) rfl rfl rfl rfl enI1 rfl rfl fun w1 lw1 sw1 => ?_
  try (dsimp only [st, setL, AV.cells, List.set_cons_zero, List.set_cons_succ, List.drop_zero, List.drop_succ_cons, List.take_zero, List.take_succ_cons, Nat.zero_add, Nat.add_zero, Nat.reduceAdd, List.cons_append, List.nil_append, List.eraseIdx_cons_zero, List.eraseIdx_cons_succ])
  refine W ?_
  refine LS_ltV rfl rfl sw1 rfl fun w2 lw2 sw2 => ?_
  try (dsimp only [st, setL, AV.cells, List.set_cons_zero, List.set_cons_succ, List.drop_zero, List.drop_succ_cons, List.take_zero, List.take_succ_cons, Nat.zero_add, Nat.add_zero, Nat.reduceAdd, List.cons_append, List.nil_append, List.eraseIdx_cons_zero, List.eraseIdx_cons_succ])
  refine W ?_
  refine LS_lt [1] rfl rfl (by decide) rfl rfl rfl rfl enI1 rfl rfl fun w3 lw3 sw3 => ?_
  try (dsimp only [st, setL, AV.cells, List.set_cons_zero, List.set_cons_succ, List.drop_zero, List.drop_succ_cons, List.take_zero, List.take_succ_cons, Nat.zero_add, Nat.add_zero, Nat.reduceAdd, List.cons_append, List.nil_append, List.eraseIdx_cons_zero, List.eraseIdx_cons_succ])
  refine W ?_
  refine W ?_
  refine RET fun h' HL => ?_
  try dsimp only [oneA]
  exact ⟨_, ⟨w2, w3, [w1], rfl, rfl, lw2, sw2, sw3, rfl⟩, HL.sel [1, 2, 0] (by decide)⟩

def tlOk (n : Int) : Bool := decide (0 ≤ n ∧ n ≤ 8)

def tlR (n : Int) : List Int := if tlOk n = true then lvl n.toNat else []

theorem specTL_ac (n : Int) (h : AH) : AC Try.prog 20 [.i .i64 n] h (fun r h' => ∃ M, TupI (tlR n) (tlOk n) r M ∧ Loq h h' M) := by
  refine e20 _ fun wf => ?_
  unfold c20
  refine LI_start wf ?_
  refine W ?_
  refine LS_c0' (fun h' HL wf => l1In_ac n 0 8 h') rfl rfl ?_
  try (dsimp only [st, setL, AV.cells, List.set_cons_zero, List.set_cons_succ, List.drop_zero, List.drop_succ_cons, List.take_zero, List.take_succ_cons, Nat.zero_add, Nat.add_zero, Nat.reduceAdd, List.cons_append, List.nil_append, List.eraseIdx_cons_zero, List.eraseIdx_cons_succ])
  refine W ?_
  (first | refine LS_gt rfl ?_ ?_ | refine LS_gf rfl ?_ ?_ | refine LI_cond rfl ?_ ?_) <;> intro hc <;> have hc' := hc <;> try simp only [decide_eq_true_eq, decide_eq_false_iff_not, Bool.not_eq_true', Bool.not_eq_false', Bool.not_eq_true, Bool.not_eq_false, beq_iff_eq, bne_iff_ne, beq_eq_false_iff_ne, bne_eq_false_iff_eq, Int.not_lt, Int.not_le, ge_iff_le, gt_iff_lt, not_and, ne_eq, Decidable.not_not] at hc'
  all_goals (try (dsimp only [st, setL, AV.cells, List.set_cons_zero, List.set_cons_succ, List.drop_zero, List.drop_succ_cons, List.take_zero, List.take_succ_cons, Nat.zero_add, Nat.add_zero, Nat.reduceAdd, List.cons_append, List.nil_append, List.eraseIdx_cons_zero, List.eraseIdx_cons_succ]))
  all_goals (refine W ?_)
  · have e : tlOk n = false := nt hc
    rw [tlR, e, if_neg (by simp)]
    refine RET fun h' HL => ?_
    try dsimp only [oneA]
    exact TupI.none HL
  · have e : tlOk n = true := nf hc
    have hn : 0 ≤ n ∧ n ≤ 8 := by simpa [tlOk] using e
    rw [tlR, e, if_pos rfl]
    refine LS_c1 (fun h' HL wf => shRoot_ac h') rfl rfl ?_
    try (dsimp only [st, setL, AV.cells, List.set_cons_zero, List.set_cons_succ, List.drop_zero, List.drop_succ_cons, List.take_zero, List.take_succ_cons, Nat.zero_add, Nat.add_zero, Nat.reduceAdd, List.cons_append, List.nil_append, List.eraseIdx_cons_zero, List.eraseIdx_cons_succ])
    refine W ?_
    rintro _ _ ⟨o0, a0, us0, rfl, hu0, lo0, so0, sa0, rfl⟩
    try (dsimp only [st, setL, AV.cells, List.set_cons_zero, List.set_cons_succ, List.drop_zero, List.drop_succ_cons, List.take_zero, List.take_succ_cons, Nat.zero_add, Nat.add_zero, Nat.reduceAdd, List.cons_append, List.nil_append, List.eraseIdx_cons_zero, List.eraseIdx_cons_succ])
    refine W ?_
    refine LS_al rfl fun b4 => ?_
    try (dsimp only [st, setL, AV.cells, List.set_cons_zero, List.set_cons_succ, List.drop_zero, List.drop_succ_cons, List.take_zero, List.take_succ_cons, Nat.zero_add, Nat.add_zero, Nat.reduceAdd, List.cons_append, List.nil_append, List.eraseIdx_cons_zero, List.eraseIdx_cons_succ])
    refine W ?_
    refine LIL_conv (L' := .pt b4 [o0, a0] :: treeI us0 o0 a0 (treeS 0)) (fun h' HL => by rw [List.append_nil] at HL; exact HL) ?_
    have hstart := treeS_TB 0 (by omega)
    refine LIL_ind (fun j a L => ∃ (k : Nat) (m : Int) (o av : AV) (us : List AV), (∃ r : Nat → AV, a = [.i .i64 m, r 1, r 2, r 3, .p b4 0, r 5, r 6, r 7, r 8, r 9, r 10, r 11, r 12, r 13, r 14, r 15, r 16, r 17, r 18, r 19, r 20, r 21, r 22, r 23, r 24, r 25, r 26, r 27, r 28, r 29, r 30, r 31, r 32, r 33, r 34, r 35]) ∧ L = .pt b4 [o, av] :: treeI us o av (treeS k) ∧ m = j ∧ (k : Int) + j = n ∧ us.length = (treeS k).1.length ∧ lenA o = some us.length ∧ o.sc = true ∧ av.sc = true)
      n.toNat ⟨0, n, o0, a0, us0, exJ rfl, rfl, by omega, by omega, hu0, lo0, so0, sa0⟩ ?_
    rintro j a _ ⟨k, m, o, av, us, ⟨r, rfl⟩, rfl, hm, hkj, hus, lo, so, sav⟩ IH
    have hTB := treeS_TB k (by omega)
    refine W ?_
    (first | refine LS_gt rfl ?_ ?_ | refine LS_gf rfl ?_ ?_ | refine LI_cond rfl ?_ ?_) <;> intro hc <;> have hc' := hc <;> try simp only [decide_eq_true_eq, decide_eq_false_iff_not, Bool.not_eq_true', Bool.not_eq_false', Bool.not_eq_true, Bool.not_eq_false, beq_iff_eq, bne_iff_ne, beq_eq_false_iff_ne, bne_eq_false_iff_eq, Int.not_lt, Int.not_le, ge_iff_le, gt_iff_lt, not_and, ne_eq, Decidable.not_not] at hc'
    all_goals (try (dsimp only [st, setL, AV.cells, List.set_cons_zero, List.set_cons_succ, List.drop_zero, List.drop_succ_cons, List.take_zero, List.take_succ_cons, Nat.zero_add, Nat.add_zero, Nat.reduceAdd, List.cons_append, List.nil_append, List.eraseIdx_cons_zero, List.eraseIdx_cons_succ]))
    all_goals (refine W ?_)
    · refine LS_c1 (fun h' HL wf => grow_ac (treeS k) o av us h' (treeI_ss (A := [_]) HL hus).1 (treeI_ss (A := [_]) HL hus).2 hTB (treeS_ne k (by omega))) rfl rfl ?_
      try (dsimp only [st, setL, AV.cells, List.set_cons_zero, List.set_cons_succ, List.drop_zero, List.drop_succ_cons, List.take_zero, List.take_succ_cons, Nat.zero_add, Nat.add_zero, Nat.reduceAdd, List.cons_append, List.nil_append, List.eraseIdx_cons_zero, List.eraseIdx_cons_succ])
      refine W ?_
      rintro _ _ ⟨o2, av2, us2, rfl, hus2, lo2, so2, sav2, rfl⟩
      refine LS_perm (L' := .pt b4 [o, av] :: (.sl o2 1 (us2.flatMap enV) :: (rowsI us2 (growT (treeS k)).1 ++ [.sl av2 1 ((growT (treeS k)).2.flatMap enI)]) ++ treeI us o av (treeS k))) List.perm_middle ?_
      refine W ?_
      refine LIL_sub (L' := .pt b4 [o2, av2] :: treeI us2 o2 av2 (treeS (k + 1))) (.cons_cons _ (List.sublist_append_left _ _)) ?_
      refine IH (j - 1) _ _ (by omega) ⟨k + 1, m - 1, o2, av2, us2, exJ rfl, rfl, by omega, by omega, hus2, lo2, so2, sav2⟩
    · clear IH
      have hk : k = n.toNat := by omega
      have hTl := treeL_last k (by omega)
      have hT1 : (treeS k).1 = (treeL k).map (·.2) := by rw [treeS_eq k (by omega)]
      have hres : (treeS k).1.map lastD = lvl n.toNat := by rw [hT1, List.map_map, ← hk]; exact hTl
      obtain ⟨hB1, hB2, hB3⟩ := hTB
      refine LIL_nl (k := 1) ?_
      refine LIL_ind (fun j a L => ∃ (out : AV) (i : Int), (∃ r : Nat → AV, a = [r 0, r 1, r 2, r 3, r 4, out, r 6, r 7, r 8, r 9, r 10, r 11, r 12, r 13, r 14, r 15, r 16, r 17, r 18, o, .i .i64 us.length, .i .i64 i, r 22, r 23, r 24, r 25, r 26, r 27, r 28, r 29, r 30, r 31, r 32, r 33, r 34, r 35]) ∧ L = .sl out 1 ((((treeS k).1.take i.toNat).map lastD).flatMap enI) :: .pt b4 [o, av] :: treeI us o av (treeS k) ∧ 0 ≤ i ∧ i + j = us.length ∧ lenA out = some (((treeS k).1.take i.toNat).map lastD).length ∧ out.sc = true)
        us.length ⟨.ns, 0, exJ rfl, rfl, by omega, by omega, rfl, rfl⟩ ?_
      rintro j a _ ⟨out, i, ⟨r, rfl⟩, rfl, h0, hj, lout, sout⟩ IH
      refine W ?_
      (first | refine LS_gt rfl ?_ ?_ | refine LS_gf rfl ?_ ?_ | refine LI_cond rfl ?_ ?_) <;> intro hc <;> have hc' := hc <;> try simp only [decide_eq_true_eq, decide_eq_false_iff_not, Bool.not_eq_true', Bool.not_eq_false', Bool.not_eq_true, Bool.not_eq_false, beq_iff_eq, bne_iff_ne, beq_eq_false_iff_ne, bne_eq_false_iff_eq, Int.not_lt, Int.not_le, ge_iff_le, gt_iff_lt, not_and, ne_eq, Decidable.not_not] at hc'
      all_goals (try (dsimp only [st, setL, AV.cells, List.set_cons_zero, List.set_cons_succ, List.drop_zero, List.drop_succ_cons, List.take_zero, List.take_succ_cons, Nat.zero_add, Nat.add_zero, Nat.reduceAdd, List.cons_append, List.nil_append, List.eraseIdx_cons_zero, List.eraseIdx_cons_succ]))
      all_goals (refine W ?_)
      · obtain ⟨path, hpath⟩ := at_ (l := (treeS k).1) (i := i.toNat) (by omega)
        obtain ⟨u, hu⟩ := at_ (l := us) (i := i.toNat) (by omega)
        obtain ⟨hp1, hp2, hp3⟩ := hB2 path (List.mem_of_getElem? hpath)
        have hil : ((treeS k).1.take i.toNat).length ≤ 1000 := by rw [List.length_take]; omega
        have hli : path[((path.length : Int) - 1).toNat]? = some (lastD path) := by rw [show ((path.length : Int) - 1).toNat = path.length - 1 by omega]; exact lastD_idx (by omega) rfl
        refine LS_ix (fun h' HL => (treeI_ss (A := [_, _]) HL hus).1.outer) enV1 hu h0 rfl rfl fun q1 o1 hrow1 => ?_
        try (dsimp only [st, setL, AV.cells, List.set_cons_zero, List.set_cons_succ, List.drop_zero, List.drop_succ_cons, List.take_zero, List.take_succ_cons, Nat.zero_add, Nat.add_zero, Nat.reduceAdd, List.cons_append, List.nil_append, List.eraseIdx_cons_zero, List.eraseIdx_cons_succ])
        refine W ?_
        refine LS_have (fun h' HL => ((treeI_ss (A := [_, _]) HL hus).1.row _ _ _ hu hpath).len) fun hlu => ?_
        try (dsimp only [st, setL, AV.cells, List.set_cons_zero, List.set_cons_succ, List.drop_zero, List.drop_succ_cons, List.take_zero, List.take_succ_cons, Nat.zero_add, Nat.add_zero, Nat.reduceAdd, List.cons_append, List.nil_append, List.eraseIdx_cons_zero, List.eraseIdx_cons_succ])
        refine W ?_
        refine LS_ix (fun h' HL => (treeI_ss (A := [_, _]) HL hus).1.row _ _ _ hu hpath) enI1 hli (by omega) rfl rfl fun q2 o2 hrow2 => ?_
        try (dsimp only [st, setL, AV.cells, List.set_cons_zero, List.set_cons_succ, List.drop_zero, List.drop_succ_cons, List.take_zero, List.take_succ_cons, Nat.zero_add, Nat.add_zero, Nat.reduceAdd, List.cons_append, List.nil_append, List.eraseIdx_cons_zero, List.eraseIdx_cons_succ])
        refine W ?_
        refine LS_lt [lastD path] rfl rfl (by decide) rfl rfl rfl rfl enI1 rfl rfl fun wl lwl swl => ?_
        try (dsimp only [st, setL, AV.cells, List.set_cons_zero, List.set_cons_succ, List.drop_zero, List.drop_succ_cons, List.take_zero, List.take_succ_cons, Nat.zero_add, Nat.add_zero, Nat.reduceAdd, List.cons_append, List.nil_append, List.eraseIdx_cons_zero, List.eraseIdx_cons_succ])
        refine W ?_
        refine LS_ap 1 rfl (fun h' HL => HL.rdI 0 rfl enI1 (by decide)) enI1 (by decide) (by simp) (by rw [List.length_map]; simp; omega) (by rw [List.length_map]; simp; omega) rfl rfl rfl fun wn lwn swn => ?_
        try (dsimp only [st, setL, AV.cells, List.set_cons_zero, List.set_cons_succ, List.drop_zero, List.drop_succ_cons, List.take_zero, List.take_succ_cons, Nat.zero_add, Nat.add_zero, Nat.reduceAdd, List.cons_append, List.nil_append, List.eraseIdx_cons_zero, List.eraseIdx_cons_succ])
        refine W ?_
        have hsn : ((treeS k).1.take (i + 1).toNat).map lastD = ((treeS k).1.take i.toNat).map lastD ++ [lastD path] := by rw [toNat_succ h0, take_snoc hpath, List.map_append]; rfl
        refine LIL_drop 1 ?_
        refine IH (j - 1) _ _ (by omega) ⟨wn, i + 1, exJ rfl, by rw [hsn]; rfl, by omega, by omega, by rw [hsn]; exact lwn, swn⟩
      · have ei : i.toNat = (treeS k).1.length := by omega
        rw [ei, List.take_length, hres] at lout ⊢
        refine RET fun h' HL => ?_
        try dsimp only [oneA]
        exact TupI.of (HL.ownI 0 rfl enI1 (by decide))

def findT (n : Int) (k : Nat) : Option (List Int) := (if k = 9 then treeT9 else (treeL k).map (·.2)).find? fun p => lastD p == n

theorem findT_ok : ∀ n : Nat, n < 101 → n = 0 ∨ ((wayOf treeW n).length ≤ 10 ∧ findT n ((wayOf treeW n).length - 1) = some (wayOf treeW n) ∧ (List.range ((wayOf treeW n).length - 1)).all (fun j => (findT n j).isNone) = true) := by decide +kernel

theorem treeS_find (n : Int) (k : Nat) (hk : k ≤ 9) : (treeS k).1.find? (fun p => lastD p == n) = findT n k := by
  unfold findT
  by_cases h : k = 9
  · subst h
    rw [if_pos rfl, treeS_9, treeS9.1]
  · rw [if_neg h, treeS_eq k (by omega)]

theorem shPath_ac (n : Int) (h : AH) (hn : 1 ≤ n ∧ n ≤ 100) : AC Try.prog 69 [.i .i64 n] h (fun r h' => Own h 1 enI h' r (wayOf treeW n)) := by
  obtain ⟨K, hK, hK1, hK2, hK3⟩ : ∃ K, K = (wayOf treeW n).length - 1 ∧ K ≤ 9 ∧ findT n K = some (wayOf treeW n) ∧ ∀ j, j < K → findT n j = none := by
    have := findT_ok n.toNat (by omega)
    rw [show ((n.toNat : Nat) : Int) = n by omega] at this
    rcases this with h | ⟨h1, h2, h3⟩
    · omega
    · exact ⟨_, rfl, by omega, h2, fun j hj => by have := List.all_eq_true.1 h3 j (List.mem_range.2 hj); simpa using this⟩
  refine e69 _ fun wf => ?_
  unfold c69
  refine LI_start wf ?_
  refine W ?_
  refine LS_c1 (fun h' HL wf => shRoot_ac h') rfl rfl ?_
  try (dsimp only [st, setL, AV.cells, List.set_cons_zero, List.set_cons_succ, List.drop_zero, List.drop_succ_cons, List.take_zero, List.take_succ_cons, Nat.zero_add, Nat.add_zero, Nat.reduceAdd, List.cons_append, List.nil_append, List.eraseIdx_cons_zero, List.eraseIdx_cons_succ])
  refine W ?_
  rintro _ _ ⟨o0, a0, us0, rfl, hu0, lo0, so0, sa0, rfl⟩
  try (dsimp only [st, setL, AV.cells, List.set_cons_zero, List.set_cons_succ, List.drop_zero, List.drop_succ_cons, List.take_zero, List.take_succ_cons, Nat.zero_add, Nat.add_zero, Nat.reduceAdd, List.cons_append, List.nil_append, List.eraseIdx_cons_zero, List.eraseIdx_cons_succ])
  refine W ?_
  refine LS_al rfl fun b3 => ?_
  try (dsimp only [st, setL, AV.cells, List.set_cons_zero, List.set_cons_succ, List.drop_zero, List.drop_succ_cons, List.take_zero, List.take_succ_cons, Nat.zero_add, Nat.add_zero, Nat.reduceAdd, List.cons_append, List.nil_append, List.eraseIdx_cons_zero, List.eraseIdx_cons_succ])
  refine W ?_
  refine LIL_conv (L' := .pt b3 [o0, a0] :: treeI us0 o0 a0 (treeS 0)) (fun h' HL => by rw [List.append_nil] at HL; exact HL) ?_
  refine LIL_ind (fun j a L => ∃ (k b : Nat) (o av : AV) (us : List AV), (∃ r : Nat → AV, a = [.i .i64 n, r 1, r 2, .p b 0, r 4, r 5, r 6, r 7, r 8, r 9, r 10, r 11, r 12, r 13, r 14, r 15, r 16, r 17, r 18, r 19, r 20, r 21, r 22, r 23, r 24, r 25, r 26]) ∧ L = .pt b [o, av] :: treeI us o av (treeS k) ∧ k + j = K ∧ us.length = (treeS k).1.length ∧ lenA o = some us.length ∧ o.sc = true ∧ av.sc = true)
    K ⟨0, b3, o0, a0, us0, exJ rfl, rfl, by omega, hu0, lo0, so0, sa0⟩ ?_
  rintro j a _ ⟨k, b, o, av, us, ⟨r, rfl⟩, rfl, hkj, hus, lo, so, sav⟩ IH
  have hTB := treeS_TB k (by omega)
  obtain ⟨hB1, hB2, hB3⟩ := hTB
  have hfk := treeS_find n k (by omega)
  refine W ?_
  refine LIL_ind (fun j a L => ∃ (i : Int), (∃ r : Nat → AV, a = [.i .i64 n, r 1, r 2, .p b 0, r 4, r 5, r 6, r 7, r 8, r 9, o, .i .i64 us.length, .i .i64 i, r 13, r 14, r 15, r 16, r 17, r 18, r 19, r 20, r 21, r 22, r 23, r 24, r 25, r 26]) ∧ L = .pt b [o, av] :: treeI us o av (treeS k) ∧ 0 ≤ i ∧ i + j = us.length ∧ ((treeS k).1.drop i.toNat).find? (fun p => lastD p == n) = findT n k)
    us.length ⟨0, exJ rfl, rfl, by omega, by omega, hfk⟩ ?_
  rintro j2 a _ ⟨i, ⟨r, rfl⟩, rfl, h0, hj, hfi⟩ IH2
  refine W ?_
  (first | refine LS_gt rfl ?_ ?_ | refine LS_gf rfl ?_ ?_ | refine LI_cond rfl ?_ ?_) <;> intro hc <;> have hc' := hc <;> try simp only [decide_eq_true_eq, decide_eq_false_iff_not, Bool.not_eq_true', Bool.not_eq_false', Bool.not_eq_true, Bool.not_eq_false, beq_iff_eq, bne_iff_ne, beq_eq_false_iff_ne, bne_eq_false_iff_eq, Int.not_lt, Int.not_le, ge_iff_le, gt_iff_lt, not_and, ne_eq, Decidable.not_not] at hc'
  all_goals (try (dsimp only [st, setL, AV.cells, List.set_cons_zero, List.set_cons_succ, List.drop_zero, List.drop_succ_cons, List.take_zero, List.take_succ_cons, Nat.zero_add, Nat.add_zero, Nat.reduceAdd, List.cons_append, List.nil_append, List.eraseIdx_cons_zero, List.eraseIdx_cons_succ]))
  all_goals (refine W ?_)
  · obtain ⟨path, hpath, hpm, hd⟩ := drop_at (l := (treeS k).1) h0 (by omega)
    obtain ⟨u, hu⟩ := at_ (l := us) (i := i.toNat) (by omega)
    obtain ⟨hp1, hp2, hp3⟩ := hB2 path hpm
    rw [hd, List.find?_cons] at hfi
    have hli : path[((path.length : Int) - 1).toNat]? = some (lastD path) := by rw [show ((path.length : Int) - 1).toNat = path.length - 1 by omega]; exact lastD_idx (by omega) rfl
    refine LS_ix (fun h' HL => (treeI_ss (A := [_]) HL hus).1.outer) enV1 hu h0 rfl rfl fun q1 o1 hrow1 => ?_
    try (dsimp only [st, setL, AV.cells, List.set_cons_zero, List.set_cons_succ, List.drop_zero, List.drop_succ_cons, List.take_zero, List.take_succ_cons, Nat.zero_add, Nat.add_zero, Nat.reduceAdd, List.cons_append, List.nil_append, List.eraseIdx_cons_zero, List.eraseIdx_cons_succ])
    refine W ?_
    refine LS_have (fun h' HL => ((treeI_ss (A := [_]) HL hus).1.row _ _ _ hu hpath).len) fun hlu => ?_
    try (dsimp only [st, setL, AV.cells, List.set_cons_zero, List.set_cons_succ, List.drop_zero, List.drop_succ_cons, List.take_zero, List.take_succ_cons, Nat.zero_add, Nat.add_zero, Nat.reduceAdd, List.cons_append, List.nil_append, List.eraseIdx_cons_zero, List.eraseIdx_cons_succ])
    refine W ?_
    refine LS_ix (fun h' HL => (treeI_ss (A := [_]) HL hus).1.row _ _ _ hu hpath) enI1 hli (by omega) rfl rfl fun q2 o2 hrow2 => ?_
    try (dsimp only [st, setL, AV.cells, List.set_cons_zero, List.set_cons_succ, List.drop_zero, List.drop_succ_cons, List.take_zero, List.take_succ_cons, Nat.zero_add, Nat.add_zero, Nat.reduceAdd, List.cons_append, List.nil_append, List.eraseIdx_cons_zero, List.eraseIdx_cons_succ])
    refine W ?_
    (first | refine LS_gt rfl ?_ ?_ | refine LS_gf rfl ?_ ?_ | refine LI_cond rfl ?_ ?_) <;> intro hc <;> have hc' := hc <;> try simp only [decide_eq_true_eq, decide_eq_false_iff_not, Bool.not_eq_true', Bool.not_eq_false', Bool.not_eq_true, Bool.not_eq_false, beq_iff_eq, bne_iff_ne, beq_eq_false_iff_ne, bne_eq_false_iff_eq, Int.not_lt, Int.not_le, ge_iff_le, gt_iff_lt, not_and, ne_eq, Decidable.not_not] at hc'
    all_goals (try (dsimp only [st, setL, AV.cells, List.set_cons_zero, List.set_cons_succ, List.drop_zero, List.drop_succ_cons, List.take_zero, List.take_succ_cons, Nat.zero_add, Nat.add_zero, Nat.reduceAdd, List.cons_append, List.nil_append, List.eraseIdx_cons_zero, List.eraseIdx_cons_succ]))
    all_goals (refine W ?_)
    · rw [hc] at hfi
      have hk : k = K := by
        refine Classical.byContradiction fun hne => ?_
        rw [hK3 k (by omega)] at hfi
        cases hfi
      rw [hk, hK2] at hfi
      have e : path = wayOf treeW n := Option.some.inj hfi
      rw [← e]
      refine RET fun h' HL => ?_
      try dsimp only [oneA]
      exact HL.ownM (List.mem_cons_of_mem _ (by unfold treeI; exact List.mem_cons_of_mem _ (List.mem_append_left _ (rowsI_get hu hpath)))) enI1 (by decide)
    · rw [hc] at hfi
      refine IH2 (j2 - 1) _ _ (by omega) ⟨i + 1, exJ rfl, rfl, by omega, by omega, by rw [toNat_succ h0]; exact hfi⟩
  · rw [List.drop_eq_nil_of_le (by omega), List.find?_nil] at hfi
    have hk : k ≠ K := fun e => by rw [e, hK2] at hfi; cases hfi
    clear IH2
    refine LS_al rfl fun b5 => ?_
    try (dsimp only [st, setL, AV.cells, List.set_cons_zero, List.set_cons_succ, List.drop_zero, List.drop_succ_cons, List.take_zero, List.take_succ_cons, Nat.zero_add, Nat.add_zero, Nat.reduceAdd, List.cons_append, List.nil_append, List.eraseIdx_cons_zero, List.eraseIdx_cons_succ])
    refine W ?_
    refine LS_c1 (fun h' HL wf => grow_ac (treeS k) o av us h' (treeI_ss (A := [_, _]) HL hus).1 (treeI_ss (A := [_, _]) HL hus).2 ⟨hB1, hB2, hB3⟩ (treeS_ne k (by omega))) rfl rfl ?_
    try (dsimp only [st, setL, AV.cells, List.set_cons_zero, List.set_cons_succ, List.drop_zero, List.drop_succ_cons, List.take_zero, List.take_succ_cons, Nat.zero_add, Nat.add_zero, Nat.reduceAdd, List.cons_append, List.nil_append, List.eraseIdx_cons_zero, List.eraseIdx_cons_succ])
    refine W ?_
    rintro _ _ ⟨o2, av2, us2, rfl, hus2, lo2, so2, sav2, rfl⟩
    refine LS_perm (L' := .pt b5 [o, av] :: (.sl o2 1 (us2.flatMap enV) :: (rowsI us2 (growT (treeS k)).1 ++ [.sl av2 1 ((growT (treeS k)).2.flatMap enI)]) ++ (.pt b [o, av] :: treeI us o av (treeS k)))) List.perm_middle ?_
    refine W ?_
    refine LIL_sub (L' := .pt b5 [o2, av2] :: treeI us2 o2 av2 (treeS (k + 1))) (.cons_cons _ (List.sublist_append_left _ _)) ?_
    refine IH (j - 1) _ _ (by omega) ⟨k + 1, b5, o2, av2, us2, exJ rfl, rfl, by omega, hus2, lo2, so2, sav2⟩

theorem specTP_ac (n : Int) (h : AH) : AC Try.prog 24 [.i .i64 n] h (fun r h' => ∃ M, TupI (tpR n) (shOk n) r M ∧ Loq h h' M) := by
  refine e24 _ fun wf => ?_
  unfold c24
  refine LI_start wf ?_
  refine W ?_
  refine LS_c0' (fun h' HL wf => shNumber_ac n h') rfl rfl ?_
  try (dsimp only [st, setL, AV.cells, List.set_cons_zero, List.set_cons_succ, List.drop_zero, List.drop_succ_cons, List.take_zero, List.take_succ_cons, Nat.zero_add, Nat.add_zero, Nat.reduceAdd, List.cons_append, List.nil_append, List.eraseIdx_cons_zero, List.eraseIdx_cons_succ])
  refine W ?_
  (first | refine LS_gt rfl ?_ ?_ | refine LS_gf rfl ?_ ?_ | refine LI_cond rfl ?_ ?_) <;> intro hc <;> have hc' := hc <;> try simp only [decide_eq_true_eq, decide_eq_false_iff_not, Bool.not_eq_true', Bool.not_eq_false', Bool.not_eq_true, Bool.not_eq_false, beq_iff_eq, bne_iff_ne, beq_eq_false_iff_ne, bne_eq_false_iff_eq, Int.not_lt, Int.not_le, ge_iff_le, gt_iff_lt, not_and, ne_eq, Decidable.not_not] at hc'
  all_goals (try (dsimp only [st, setL, AV.cells, List.set_cons_zero, List.set_cons_succ, List.drop_zero, List.drop_succ_cons, List.take_zero, List.take_succ_cons, Nat.zero_add, Nat.add_zero, Nat.reduceAdd, List.cons_append, List.nil_append, List.eraseIdx_cons_zero, List.eraseIdx_cons_succ]))
  all_goals (refine W ?_)
  · have e : shOk n = false := nt hc
    rw [tpR, e, if_neg (by simp)]
    refine RET fun h' HL => ?_
    try dsimp only [oneA]
    exact TupI.none HL
  · have e : shOk n = true := nf hc
    have hn : 1 ≤ n ∧ n ≤ 100 := by simpa [shOk] using e
    rw [tpR, e, if_pos rfl]
    refine LS_co (fun h' HL wf => shPath_ac n h' hn) enI1 rfl rfl fun w lw sw => ?_
    try (dsimp only [st, setL, AV.cells, List.set_cons_zero, List.set_cons_succ, List.drop_zero, List.drop_succ_cons, List.take_zero, List.take_succ_cons, Nat.zero_add, Nat.add_zero, Nat.reduceAdd, List.cons_append, List.nil_append, List.eraseIdx_cons_zero, List.eraseIdx_cons_succ])
    refine W ?_
    refine RET fun h' HL => ?_
    try dsimp only [oneA]
    exact TupI.of (HL.ownI 0 rfl enI1 (by decide))

theorem implTL_ac (n : Int) (h : AH) : AC Try.prog 21 [.i .i64 n] h (fun r h' => ∃ M, TupI (tlR n) (tlOk n) r M ∧ Loq h h' M) := by
  refine e21 _ fun wf => ?_
  unfold c21
  refine LI_start wf ?_
  refine W ?_
  refine LS_c0' (fun h' HL wf => in_ac n 0 8 h') rfl rfl ?_
  try (dsimp only [st, setL, AV.cells, List.set_cons_zero, List.set_cons_succ, List.drop_zero, List.drop_succ_cons, List.take_zero, List.take_succ_cons, Nat.zero_add, Nat.add_zero, Nat.reduceAdd, List.cons_append, List.nil_append, List.eraseIdx_cons_zero, List.eraseIdx_cons_succ])
  refine W ?_
  (first | refine LS_gt rfl ?_ ?_ | refine LS_gf rfl ?_ ?_ | refine LI_cond rfl ?_ ?_) <;> intro hc <;> have hc' := hc <;> try simp only [decide_eq_true_eq, decide_eq_false_iff_not, Bool.not_eq_true', Bool.not_eq_false', Bool.not_eq_true, Bool.not_eq_false, beq_iff_eq, bne_iff_ne, beq_eq_false_iff_ne, bne_eq_false_iff_eq, Int.not_lt, Int.not_le, ge_iff_le, gt_iff_lt, not_and, ne_eq, Decidable.not_not] at hc'
  all_goals (try (dsimp only [st, setL, AV.cells, List.set_cons_zero, List.set_cons_succ, List.drop_zero, List.drop_succ_cons, List.take_zero, List.take_succ_cons, Nat.zero_add, Nat.add_zero, Nat.reduceAdd, List.cons_append, List.nil_append, List.eraseIdx_cons_zero, List.eraseIdx_cons_succ]))
  all_goals (refine W ?_)
  · have e : tlOk n = false := nt hc
    rw [tlR, e, if_neg (by simp)]
    refine RET fun h' HL => ?_
    try dsimp only [oneA]
    exact TupI.none HL
  · have e : tlOk n = true := nf hc
    have hn : 0 ≤ n ∧ n ≤ 8 := by simpa [tlOk] using e
    rw [tlR, e, if_pos rfl]
    refine LS_c1 (fun h' HL wf => treeWays_ac h') rfl rfl ?_
    try (dsimp only [st, setL, AV.cells, List.set_cons_zero, List.set_cons_succ, List.drop_zero, List.drop_succ_cons, List.take_zero, List.take_succ_cons, Nat.zero_add, Nat.add_zero, Nat.reduceAdd, List.cons_append, List.nil_append, List.eraseIdx_cons_zero, List.eraseIdx_cons_succ])
    refine W ?_
    rintro _ _ ⟨rr, lv, us, ls, rfl, hus, hls, llv, slv, rfl⟩
    try (dsimp only [st, setL, AV.cells, List.set_cons_zero, List.set_cons_succ, List.drop_zero, List.drop_succ_cons, List.take_zero, List.take_succ_cons, Nat.zero_add, Nat.add_zero, Nat.reduceAdd, List.cons_append, List.nil_append, List.eraseIdx_cons_zero, List.eraseIdx_cons_succ])
    refine W ?_
    obtain ⟨u, hu⟩ := at_ (l := ls) (i := n.toNat) (by omega)
    have hl : (lvls 12)[n.toNat]? = some (lvl n.toNat) := lvls_get (by omega)
    refine LS_ix (fun h' HL => HL.rdI 1 rfl enV1 (by decide)) enV1 hu hn.1 rfl rfl fun q1 o1 hrow1 => ?_
    try (dsimp only [st, setL, AV.cells, List.set_cons_zero, List.set_cons_succ, List.drop_zero, List.drop_succ_cons, List.take_zero, List.take_succ_cons, Nat.zero_add, Nat.add_zero, Nat.reduceAdd, List.cons_append, List.nil_append, List.eraseIdx_cons_zero, List.eraseIdx_cons_succ])
    refine W ?_
    refine RET fun h' HL => ?_
    try dsimp only [oneA]
    exact TupI.of (HL.ownM (List.mem_cons_of_mem _ (List.mem_cons_of_mem _ (List.mem_append_left _ (List.mem_append_right _ (rowsI_get hu hl))))) enI1 (by decide))

theorem tlR_len {n : Int} : (tlR n).length ≤ 1048576 := by
  unfold tlR
  split
  · rename_i e
    have hn : 0 ≤ n ∧ n ≤ 8 := by simpa [tlOk] using e
    have := treeL_len n.toNat (by omega)
    unfold lvl
    rw [List.length_map]
    omega
  · simp

theorem tpR_len {n : Int} : (tpR n).length ≤ 1048576 := by
  unfold tpR
  split
  · unfold wayOf
    cases hf : treeW.find? (fun e => e.1 == n) with
    | none => simp
    | some p =>
      have := (treeW_ok p (List.mem_of_find?_eq_some hf)).2.1
      simp; omega
  · simp

/-! ### The law of the power tree -/
theorem DrawTreeLevel_ac (c1 : List Int) (v1 : AV) (h : AH) (hcv : RdG 1 enU h v1 c1) (hb : ∀ x ∈ c1, 0 ≤ x ∧ x ≤ 255) :
    AC Try.prog 37 [v1] h (fun r h' => (∃ x, r = .i .i64 x ∧ (-1 ≤ x ∧ x ≤ 9)) ∧ h.le h') := by
  refine e37 _ fun wf => ?_
  unfold c37
  refine LI_start wf ?_
  refine W ?_
  refine LS_bxn rfl (sc_cons (rd_sc hcv) rfl) fun bc => ?_
  try (dsimp only [st, setL, AV.cells, List.set_cons_zero, List.set_cons_succ, List.drop_zero, List.drop_succ_cons, List.take_zero, List.take_succ_cons, Nat.zero_add, Nat.add_zero, Nat.reduceAdd, List.cons_append, List.nil_append, List.eraseIdx_cons_zero, List.eraseIdx_cons_succ])
  refine W ?_
  refine LS_lt [0, 1, 2, 3, 4, 5, 6, 7, 8, 9, -1] rfl rfl (by decide) rfl rfl rfl rfl enI1 rfl rfl fun w lw sw => ?_
  try (dsimp only [st, setL, AV.cells, List.set_cons_zero, List.set_cons_succ, List.drop_zero, List.drop_succ_cons, List.take_zero, List.take_succ_cons, Nat.zero_add, Nat.add_zero, Nat.reduceAdd, List.cons_append, List.nil_append, List.eraseIdx_cons_zero, List.eraseIdx_cons_succ])
  refine W ?_
  refine LS_rot 1 rfl ?_
  refine LS_cm (.refl _) (fun h' HL wf => among_ac [0, 1, 2, 3, 4, 5, 6, 7, 8, 9, -1] w _ _ _ _ _ _ h' _ HL (fun h' HL => HL.rdI 0 rfl enI1 (by decide)) (by decide) hcv hb (by omega) (by omega)) rfl rfl ?_
  rintro _ _ ⟨x, ct1, sd1, rfl, hx, hct1, rfl⟩
  try (dsimp only [st, setL, AV.cells, List.set_cons_zero, List.set_cons_succ, List.drop_zero, List.drop_succ_cons, List.take_zero, List.take_succ_cons, Nat.zero_add, Nat.add_zero, Nat.reduceAdd, List.cons_append, List.nil_append, List.eraseIdx_cons_zero, List.eraseIdx_cons_succ])
  refine W ?_
  have hx2 : -1 ≤ x ∧ x ≤ 9 := by
    have : ∀ y ∈ ([0, 1, 2, 3, 4, 5, 6, 7, 8, 9, -1] : List Int), -1 ≤ y ∧ y ≤ 9 := by decide
    exact this x hx
  refine RET fun h' HL => ?_
  try dsimp only [oneA]
  exact ⟨⟨x, rfl, hx2⟩, HL.le⟩

def tpR2 (n : Int) : Int := if shOk n = true ∧ n ≠ 1 then ((wayOf treeW n)[(wayOf treeW n).length - 2]?).getD 0 else 0

def tpOk2 (n : Int) : Bool := shOk n && !decide (n = 1)

theorem way_ok : ∀ n : Nat, n < 101 → n = 0 ∨ n = 1 ∨ (2 ≤ (wayOf treeW n).length ∧ (wayOf treeW n).length ≤ 12 ∧ (wayOf treeW n)[(wayOf treeW n).length - 1]? = some (n : Int) ∧ 1 ≤ tpR2 n ∧ tpR2 n ≤ 100 ∧ (wayOf treeW n)[(wayOf treeW n).length - 2]? = some (tpR2 n) ∧ wayOf treeW (tpR2 n) = (wayOf treeW n).take ((wayOf treeW n).length - 1)) := by decide +kernel

def tlChk (k : Nat) : List Int → List Int → Bool
  | _, [] => true
  | s, m :: t => !(s.any fun y => y == m) && (decide (m > 100) || decide (m < 1) || decide ((wayOf treeW m).length = k + 1)) && tlChk k (s ++ [m]) t

theorem tlChk_get {k : Nat} : ∀ (l s : List Int) (i : Nat) (m : Int), tlChk k s l = true → l[i]? = some m → ((s ++ l.take i).any fun y => y == m) = false ∧ (shOk m = true → (wayOf treeW m).length = k + 1) := by
  intro l
  induction l with
  | nil => intro s i m _ h; simp at h
  | cons x t ih =>
    intro s i m hc h
    simp only [tlChk, Bool.and_eq_true, Bool.or_eq_true, decide_eq_true_eq, Bool.not_eq_true'] at hc
    obtain ⟨⟨h1, h2⟩, h3⟩ := hc
    cases i with
    | zero =>
      simp at h
      subst h
      refine ⟨by simpa using h1, fun hok => ?_⟩
      have hn : 1 ≤ x ∧ x ≤ 100 := by simpa [shOk] using hok
      omega
    | succ i =>
      have := ih (s ++ [x]) i m h3 (by simpa using h)
      rwa [List.append_assoc] at this

theorem tlChk_ok : ∀ k : Nat, k < 9 → tlChk k [] (lvl k) = true := by decide +kernel

theorem tlR_get {x : Int} {i : Nat} {m : Int} (h : (tlR x)[i]? = some m) : (0 ≤ x ∧ x ≤ 8) ∧ ((tlR x).take i).any (fun y => y == m) = false ∧ (shOk m = true → ((wayOf treeW m).length : Int) = x + 1) := by
  unfold tlR at h ⊢
  split at h
  · rename_i e
    have hn : 0 ≤ x ∧ x ≤ 8 := by simpa [tlOk] using e
    obtain ⟨h1, h2⟩ := tlChk_get (lvl x.toNat) [] i m (tlChk_ok x.toNat (by omega)) h
    rw [if_pos e]
    refine ⟨hn, by simpa using h1, fun ho => by rw [h2 ho]; omega⟩
  · simp at h

theorem implPar_ac (n : Int) (h : AH) : AC Try.prog 40 [.i .i64 n] h (fun r h' => r = .tup [.i .i64 (tpR2 n), .b (tpOk2 n)] ∧ h.le h') := by
  have htp := fun (h' : AH) => implTP_ac n h'
  refine e40 _ fun wf => ?_
  unfold c40
  refine LI_start wf ?_
  refine W ?_
  refine LS_c1 (fun h' HL wf => htp h') rfl rfl ?_
  try (dsimp only [st, setL, AV.cells, List.set_cons_zero, List.set_cons_succ, List.drop_zero, List.drop_succ_cons, List.take_zero, List.take_succ_cons, Nat.zero_add, Nat.add_zero, Nat.reduceAdd, List.cons_append, List.nil_append, List.eraseIdx_cons_zero, List.eraseIdx_cons_succ])
  refine W ?_
  rintro _ _ ⟨wc, rfl, lwc, swc, rfl⟩
  try (dsimp only [st, setL, AV.cells, List.set_cons_zero, List.set_cons_succ, List.drop_zero, List.drop_succ_cons, List.take_zero, List.take_succ_cons, Nat.zero_add, Nat.add_zero, Nat.reduceAdd, List.cons_append, List.nil_append, List.eraseIdx_cons_zero, List.eraseIdx_cons_succ])
  refine W ?_
  cases hok : shOk n
  · have e1 : tpOk2 n = false := by simp [tpOk2, hok]
    have e2 : tpR2 n = 0 := by simp [tpR2, hok]
    rw [e1, e2]
    refine W ?_
    refine RET fun h' HL => ?_
    try dsimp only [oneA]
    exact ⟨rfl, HL.le⟩
  · by_cases h1 : n = 1
    · have e1 : tpOk2 n = false := by simp [tpOk2, h1]
      have e2 : tpR2 n = 0 := by simp [tpR2, h1]
      rw [e1, e2]
      refine W ?_
      first | (refine LS_gyH rfl (by simp [h1]) ?_; intro hg) | (refine LI_cond_tH rfl (by simp [h1]) ?_; intro hg)
      refine W ?_
      refine RET fun h' HL => ?_
      try dsimp only [oneA]
      exact ⟨rfl, HL.le⟩
    · have hn : 1 ≤ n ∧ n ≤ 100 := by simpa [shOk] using hok
      have e1 : tpOk2 n = true := by simp [tpOk2, h1, hok]
      have hw := way_ok n.toNat (by omega)
      rw [show ((n.toNat : Nat) : Int) = n by omega] at hw
      obtain ⟨f1, f2, f3, f4, f5, f6, f7⟩ : 2 ≤ (wayOf treeW n).length ∧ (wayOf treeW n).length ≤ 12 ∧ (wayOf treeW n)[(wayOf treeW n).length - 1]? = some n ∧ 1 ≤ tpR2 n ∧ tpR2 n ≤ 100 ∧ (wayOf treeW n)[(wayOf treeW n).length - 2]? = some (tpR2 n) ∧ wayOf treeW (tpR2 n) = (wayOf treeW n).take ((wayOf treeW n).length - 1) := by
        rcases hw with h | h | h
        · omega
        · omega
        · exact h
      have er : tpR n = wayOf treeW n := by rw [tpR, if_pos hok]
      rw [er] at lwc ⊢
      rw [e1]
      refine W ?_
      first | (refine LS_gtnH rfl (by simp [h1]) ?_; intro hg; try (dsimp only [st, setL, AV.cells, List.set_cons_zero, List.set_cons_succ, List.drop_zero, List.drop_succ_cons, List.take_zero, List.take_succ_cons, Nat.zero_add, Nat.add_zero, Nat.reduceAdd, List.cons_append, List.nil_append, List.eraseIdx_cons_zero, List.eraseIdx_cons_succ])) | (refine LS_gfnH rfl (by simp [h1]) ?_; intro hg; try (dsimp only [st, setL, AV.cells, List.set_cons_zero, List.set_cons_succ, List.drop_zero, List.drop_succ_cons, List.take_zero, List.take_succ_cons, Nat.zero_add, Nat.add_zero, Nat.reduceAdd, List.cons_append, List.nil_append, List.eraseIdx_cons_zero, List.eraseIdx_cons_succ])) | (refine LI_cond_fH rfl (by simp [h1]) ?_; intro hg)
      refine W ?_
      refine LS_ix (y := tpR2 n) (fun h' HL => HL.rdI 0 rfl enI1 (by decide)) enI1 (by rw [show (((wayOf treeW n).length : Int) - 2).toNat = (wayOf treeW n).length - 2 by omega]; exact f6) (by omega) rfl rfl fun q1 o1 hrow1 => ?_
      try (dsimp only [st, setL, AV.cells, List.set_cons_zero, List.set_cons_succ, List.drop_zero, List.drop_succ_cons, List.take_zero, List.take_succ_cons, Nat.zero_add, Nat.add_zero, Nat.reduceAdd, List.cons_append, List.nil_append, List.eraseIdx_cons_zero, List.eraseIdx_cons_succ])
      refine W ?_
      refine RET fun h' HL => ?_
      try dsimp only [oneA]
      exact ⟨rfl, HL.le⟩

theorem lawFnPowerTree_ac (c1 : List Int) (v1 : AV) (c2 : List Int) (v2 : AV) (h : AH) (hR1 : RdG 1 enU h v1 c1) (w1 : ∀ n ∈ c1, (Lit.int .u8 n).wf = true) (m1 : c1.length ≤ maxLen) (hR2 : RdG 1 enU h v2 c2) (w2 : ∀ n ∈ c2, (Lit.int .u8 n).wf = true) (m2 : c2.length ≤ maxLen) :
    AC Try.prog 9 [v1, v2] h (fun r h' => r = .b true) := by
  have b1 := bytes_in w1
  have b2 := bytes_in w2
  have q1 : c1.length ≤ 9223372036854775807 := m1
  have q2 : c2.length ≤ 9223372036854775807 := m2
  refine e9 _ _ fun wf => ?_
  unfold c9
  refine LI_start wf ?_
  refine W ?_
  refine LS_c0 (fun h' HL wf => big_ac c1 c2 v1 v2 h' (hR1.le HL.le) (hR2.le HL.le) q1 q2) rfl rfl ?_
  try (dsimp only [st, setL, AV.cells, List.set_cons_zero, List.set_cons_succ, List.drop_zero, List.drop_succ_cons, List.take_zero, List.take_succ_cons, Nat.zero_add, Nat.add_zero, Nat.reduceAdd, List.cons_append, List.nil_append, List.eraseIdx_cons_zero, List.eraseIdx_cons_succ])
  refine W ?_
  (first | refine LS_gt rfl ?_ ?_ | refine LS_gf rfl ?_ ?_ | refine LI_cond rfl ?_ ?_) <;> intro hc <;> have hc' := hc <;> try simp only [decide_eq_true_eq, decide_eq_false_iff_not, Bool.not_eq_true', Bool.not_eq_false', Bool.not_eq_true, Bool.not_eq_false, beq_iff_eq, bne_iff_ne, beq_eq_false_iff_ne, bne_eq_false_iff_eq, Int.not_lt, Int.not_le, ge_iff_le, gt_iff_lt, not_and, ne_eq, Decidable.not_not] at hc'
  all_goals (try (dsimp only [st, setL, AV.cells, List.set_cons_zero, List.set_cons_succ, List.drop_zero, List.drop_succ_cons, List.take_zero, List.take_succ_cons, Nat.zero_add, Nat.add_zero, Nat.reduceAdd, List.cons_append, List.nil_append, List.eraseIdx_cons_zero, List.eraseIdx_cons_succ]))
  all_goals (refine W ?_)
  · refine RET fun h' HL => ?_
    try dsimp only [oneA]
  · refine LS_cq (fun h' HL wf => DrawTreeLevel_ac c1 v1 h' (hR1.le HL.le) b1) rfl rfl ?_
    try (dsimp only [st, setL, AV.cells, List.set_cons_zero, List.set_cons_succ, List.drop_zero, List.drop_succ_cons, List.take_zero, List.take_succ_cons, Nat.zero_add, Nat.add_zero, Nat.reduceAdd, List.cons_append, List.nil_append, List.eraseIdx_cons_zero, List.eraseIdx_cons_succ])
    refine W ?_
    rintro _ ⟨x, rfl, hx⟩
    try (dsimp only [st, setL, AV.cells, List.set_cons_zero, List.set_cons_succ, List.drop_zero, List.drop_succ_cons, List.take_zero, List.take_succ_cons, Nat.zero_add, Nat.add_zero, Nat.reduceAdd, List.cons_append, List.nil_append, List.eraseIdx_cons_zero, List.eraseIdx_cons_succ])
    refine W ?_
    have hxl : (tlR x).length ≤ 1048576 := tlR_len
    have hti := fun (h' : AH) => implTL_ac x h'
    have hts := fun (h' : AH) => specTL_ac x h'
    refine LS_c1 (fun h' HL wf => hti h') rfl rfl ?_
    try (dsimp only [st, setL, AV.cells, List.set_cons_zero, List.set_cons_succ, List.drop_zero, List.drop_succ_cons, List.take_zero, List.take_succ_cons, Nat.zero_add, Nat.add_zero, Nat.reduceAdd, List.cons_append, List.nil_append, List.eraseIdx_cons_zero, List.eraseIdx_cons_succ])
    refine W ?_
    rintro _ _ ⟨wl, rfl, lwl, swl, rfl⟩
    try (dsimp only [st, setL, AV.cells, List.set_cons_zero, List.set_cons_succ, List.drop_zero, List.drop_succ_cons, List.take_zero, List.take_succ_cons, Nat.zero_add, Nat.add_zero, Nat.reduceAdd, List.cons_append, List.nil_append, List.eraseIdx_cons_zero, List.eraseIdx_cons_succ])
    refine W ?_
    refine LS_c1 (fun h' HL wf => hts h') rfl rfl ?_
    try (dsimp only [st, setL, AV.cells, List.set_cons_zero, List.set_cons_succ, List.drop_zero, List.drop_succ_cons, List.take_zero, List.take_succ_cons, Nat.zero_add, Nat.add_zero, Nat.reduceAdd, List.cons_append, List.nil_append, List.eraseIdx_cons_zero, List.eraseIdx_cons_succ])
    refine W ?_
    rintro _ _ ⟨wr, rfl, lwr, swr, rfl⟩
    try (dsimp only [st, setL, AV.cells, List.set_cons_zero, List.set_cons_succ, List.drop_zero, List.drop_succ_cons, List.take_zero, List.take_succ_cons, Nat.zero_add, Nat.add_zero, Nat.reduceAdd, List.cons_append, List.nil_append, List.eraseIdx_cons_zero, List.eraseIdx_cons_succ])
    refine W ?_
    first | (refine LS_gyH rfl (by simp) ?_; intro hg) | (refine LI_cond_tH rfl (by simp) ?_; intro hg)
    refine W ?_
    refine LS_c0 (fun h' HL wf => rSame_ac (tlR x) wl wr h' (HL.rdI 1 rfl enI1 (by decide)) (HL.rdI 0 rfl enI1 (by decide)) (by omega)) rfl rfl ?_
    try (dsimp only [st, setL, AV.cells, List.set_cons_zero, List.set_cons_succ, List.drop_zero, List.drop_succ_cons, List.take_zero, List.take_succ_cons, Nat.zero_add, Nat.add_zero, Nat.reduceAdd, List.cons_append, List.nil_append, List.eraseIdx_cons_zero, List.eraseIdx_cons_succ])
    refine W ?_
    refine LIL_drop 1 ?_
    refine LIL_ind (fun j a L => ∃ (i : Int), (∃ r : Nat → AV, a = [r 0, v2, r 2, r 3, r 4, .i .i64 x, wl, r 7, r 8, r 9, r 10, r 11, r 12, r 13, r 14, r 15, r 16, r 17, r 18, r 19, r 20, r 21, r 22, r 23, r 24, r 25, r 26, r 27, r 28, r 29, r 30, r 31, r 32, r 33, r 34, r 35, r 36, r 37, r 38, r 39, r 40, r 41, r 42, r 43, r 44, r 45, r 46, wl, .i .i64 (tlR x).length, .i .i64 i, r 50, r 51, r 52, r 53, r 54, r 55, r 56, r 57, r 58, r 59, r 60, r 61, r 62, r 63, r 64, r 65, r 66, r 67, r 68, r 69, r 70, r 71, r 72, r 73, r 74, r 75, r 76, r 77, r 78, r 79, r 80, r 81, r 82, r 83, r 84, r 85, r 86, r 87, r 88, r 89, r 90, r 91, r 92, r 93, r 94, r 95, r 96, r 97, r 98, r 99, r 100, r 101, r 102, r 103, r 104, r 105, r 106, r 107, r 108, r 109, r 110, r 111, r 112, r 113, r 114, r 115, r 116, r 117, r 118, r 119, r 120, r 121, r 122, r 123, r 124, r 125, r 126, r 127, r 128, r 129, r 130, r 131, r 132, r 133, r 134]) ∧ L = [.sl wl 1 ((tlR x).flatMap enI)] ∧ 0 ≤ i ∧ i + j = (tlR x).length)
      (tlR x).length ⟨0, exJ rfl, rfl, by omega, by omega⟩ ?_
    rintro j a _ ⟨i, ⟨r, rfl⟩, rfl, h0, hj⟩ IH
    refine W ?_
    (first | refine LS_gt rfl ?_ ?_ | refine LS_gf rfl ?_ ?_ | refine LI_cond rfl ?_ ?_) <;> intro hc <;> have hc' := hc <;> try simp only [decide_eq_true_eq, decide_eq_false_iff_not, Bool.not_eq_true', Bool.not_eq_false', Bool.not_eq_true, Bool.not_eq_false, beq_iff_eq, bne_iff_ne, beq_eq_false_iff_ne, bne_eq_false_iff_eq, Int.not_lt, Int.not_le, ge_iff_le, gt_iff_lt, not_and, ne_eq, Decidable.not_not] at hc'
    all_goals (try (dsimp only [st, setL, AV.cells, List.set_cons_zero, List.set_cons_succ, List.drop_zero, List.drop_succ_cons, List.take_zero, List.take_succ_cons, Nat.zero_add, Nat.add_zero, Nat.reduceAdd, List.cons_append, List.nil_append, List.eraseIdx_cons_zero, List.eraseIdx_cons_succ]))
    all_goals (refine W ?_)
    · obtain ⟨m, hm⟩ := at_ (l := tlR x) (i := i.toNat) (by omega)
      obtain ⟨hx8, hany, hlen⟩ := tlR_get hm
      have htp := fun (h' : AH) => implTP_ac m h'
      refine LS_ix (fun h' HL => HL.rdI 0 rfl enI1 (by decide)) enI1 hm h0 rfl rfl fun q1 o1 hrow1 => ?_
      try (dsimp only [st, setL, AV.cells, List.set_cons_zero, List.set_cons_succ, List.drop_zero, List.drop_succ_cons, List.take_zero, List.take_succ_cons, Nat.zero_add, Nat.add_zero, Nat.reduceAdd, List.cons_append, List.nil_append, List.eraseIdx_cons_zero, List.eraseIdx_cons_succ])
      refine W ?_
      refine LS_sz (u := i.toNat) (ll := tlR x) (fun h' HL => HL.rdI 0 rfl enI1 (by decide)) enI1 (.inl ⟨rfl, rfl⟩) (.inr ⟨_, .i64, i, rfl, rfl, by omega, rfl⟩) (by omega) (by omega) rfl fun wz lwz swz hRz => ?_
      try (dsimp only [st, setL, AV.cells, List.set_cons_zero, List.set_cons_succ, List.drop_zero, List.drop_succ_cons, List.take_zero, List.take_succ_cons, Nat.zero_add, Nat.add_zero, Nat.reduceAdd, List.cons_append, List.nil_append, List.eraseIdx_cons_zero, List.eraseIdx_cons_succ])
      refine W ?_
      refine LS_c0 (fun h' HL wf => by have H := rHas_ac (((tlR x).take i.toNat).drop 0) wz m h' (hRz _ (HL.rdI 0 rfl enI1 (by decide))) (by simp; omega); rw [List.drop_zero, hany] at H; exact H) rfl rfl ?_
      try (dsimp only [st, setL, AV.cells, List.set_cons_zero, List.set_cons_succ, List.drop_zero, List.drop_succ_cons, List.take_zero, List.take_succ_cons, Nat.zero_add, Nat.add_zero, Nat.reduceAdd, List.cons_append, List.nil_append, List.eraseIdx_cons_zero, List.eraseIdx_cons_succ])
      refine W ?_
      refine LS_c1 (fun h' HL wf => htp h') rfl rfl ?_
      try (dsimp only [st, setL, AV.cells, List.set_cons_zero, List.set_cons_succ, List.drop_zero, List.drop_succ_cons, List.take_zero, List.take_succ_cons, Nat.zero_add, Nat.add_zero, Nat.reduceAdd, List.cons_append, List.nil_append, List.eraseIdx_cons_zero, List.eraseIdx_cons_succ])
      refine W ?_
      rintro _ _ ⟨wp, rfl, lwp, swp, rfl⟩
      try (dsimp only [st, setL, AV.cells, List.set_cons_zero, List.set_cons_succ, List.drop_zero, List.drop_succ_cons, List.take_zero, List.take_succ_cons, Nat.zero_add, Nat.add_zero, Nat.reduceAdd, List.cons_append, List.nil_append, List.eraseIdx_cons_zero, List.eraseIdx_cons_succ])
      refine W ?_
      cases hok : shOk m
      · refine W ?_
        refine LIL_drop 1 ?_
        exact IH (j - 1) _ _ (by omega) ⟨i + 1, exJ rfl, rfl, by omega, by omega⟩
      · have er : tpR m = wayOf treeW m := by rw [tpR, if_pos hok]
        have hl := hlen hok
        rw [er] at lwp ⊢
        refine W ?_
        first | (refine LS_gtnH rfl (by simp; omega) ?_; intro hg; try (dsimp only [st, setL, AV.cells, List.set_cons_zero, List.set_cons_succ, List.drop_zero, List.drop_succ_cons, List.take_zero, List.take_succ_cons, Nat.zero_add, Nat.add_zero, Nat.reduceAdd, List.cons_append, List.nil_append, List.eraseIdx_cons_zero, List.eraseIdx_cons_succ])) | (refine LS_gfnH rfl (by simp; omega) ?_; intro hg; try (dsimp only [st, setL, AV.cells, List.set_cons_zero, List.set_cons_succ, List.drop_zero, List.drop_succ_cons, List.take_zero, List.take_succ_cons, Nat.zero_add, Nat.add_zero, Nat.reduceAdd, List.cons_append, List.nil_append, List.eraseIdx_cons_zero, List.eraseIdx_cons_succ])) | (refine LI_cond_fH rfl (by simp; omega) ?_; intro hg)
        refine W ?_
        refine LIL_drop 1 ?_
        exact IH (j - 1) _ _ (by omega) ⟨i + 1, exJ rfl, rfl, by omega, by omega⟩
    · clear IH
      refine LS_cq (fun h' HL wf => DrawTreePath_ac c2 v2 h' (hR2.le HL.le) b2) rfl rfl ?_
      try (dsimp only [st, setL, AV.cells, List.set_cons_zero, List.set_cons_succ, List.drop_zero, List.drop_succ_cons, List.take_zero, List.take_succ_cons, Nat.zero_add, Nat.add_zero, Nat.reduceAdd, List.cons_append, List.nil_append, List.eraseIdx_cons_zero, List.eraseIdx_cons_succ])
      refine W ?_
      rintro _ ⟨n, rfl, hn⟩
      try (dsimp only [st, setL, AV.cells, List.set_cons_zero, List.set_cons_succ, List.drop_zero, List.drop_succ_cons, List.take_zero, List.take_succ_cons, Nat.zero_add, Nat.add_zero, Nat.reduceAdd, List.cons_append, List.nil_append, List.eraseIdx_cons_zero, List.eraseIdx_cons_succ])
      refine W ?_
      have hpl : (tpR n).length ≤ 1048576 := tpR_len
      have hti := fun (h' : AH) => implTP_ac n h'
      have hts := fun (h' : AH) => specTP_ac n h'
      refine LS_c1 (fun h' HL wf => hti h') rfl rfl ?_
      try (dsimp only [st, setL, AV.cells, List.set_cons_zero, List.set_cons_succ, List.drop_zero, List.drop_succ_cons, List.take_zero, List.take_succ_cons, Nat.zero_add, Nat.add_zero, Nat.reduceAdd, List.cons_append, List.nil_append, List.eraseIdx_cons_zero, List.eraseIdx_cons_succ])
      refine W ?_
      rintro _ _ ⟨wp, rfl, lwp, swp, rfl⟩
      try (dsimp only [st, setL, AV.cells, List.set_cons_zero, List.set_cons_succ, List.drop_zero, List.drop_succ_cons, List.take_zero, List.take_succ_cons, Nat.zero_add, Nat.add_zero, Nat.reduceAdd, List.cons_append, List.nil_append, List.eraseIdx_cons_zero, List.eraseIdx_cons_succ])
      refine W ?_
      refine LS_c1 (fun h' HL wf => hts h') rfl rfl ?_
      try (dsimp only [st, setL, AV.cells, List.set_cons_zero, List.set_cons_succ, List.drop_zero, List.drop_succ_cons, List.take_zero, List.take_succ_cons, Nat.zero_add, Nat.add_zero, Nat.reduceAdd, List.cons_append, List.nil_append, List.eraseIdx_cons_zero, List.eraseIdx_cons_succ])
      refine W ?_
      rintro _ _ ⟨ww, rfl, lww, sww, rfl⟩
      try (dsimp only [st, setL, AV.cells, List.set_cons_zero, List.set_cons_succ, List.drop_zero, List.drop_succ_cons, List.take_zero, List.take_succ_cons, Nat.zero_add, Nat.add_zero, Nat.reduceAdd, List.cons_append, List.nil_append, List.eraseIdx_cons_zero, List.eraseIdx_cons_succ])
      refine W ?_
      refine LS_c0 (fun h' HL wf => implPar_ac n h') rfl rfl ?_
      try (dsimp only [st, setL, AV.cells, List.set_cons_zero, List.set_cons_succ, List.drop_zero, List.drop_succ_cons, List.take_zero, List.take_succ_cons, Nat.zero_add, Nat.add_zero, Nat.reduceAdd, List.cons_append, List.nil_append, List.eraseIdx_cons_zero, List.eraseIdx_cons_succ])
      refine W ?_
      first | (refine LS_gyH rfl (by simp) ?_; intro hg) | (refine LI_cond_tH rfl (by simp) ?_; intro hg)
      refine W ?_
      refine LS_c0 (fun h' HL wf => rSame_ac (tpR n) wp ww h' (HL.rdI 1 rfl enI1 (by decide)) (HL.rdI 0 rfl enI1 (by decide)) (by omega)) rfl rfl ?_
      try (dsimp only [st, setL, AV.cells, List.set_cons_zero, List.set_cons_succ, List.drop_zero, List.drop_succ_cons, List.take_zero, List.take_succ_cons, Nat.zero_add, Nat.add_zero, Nat.reduceAdd, List.cons_append, List.nil_append, List.eraseIdx_cons_zero, List.eraseIdx_cons_succ])
      refine W ?_
      cases hok : shOk n
      · have e1 : tpOk2 n = false := by simp [tpOk2, hok]
        rw [e1]
        refine W ?_
        first | (refine LS_gtnH rfl (by simp) ?_; intro hg; try (dsimp only [st, setL, AV.cells, List.set_cons_zero, List.set_cons_succ, List.drop_zero, List.drop_succ_cons, List.take_zero, List.take_succ_cons, Nat.zero_add, Nat.add_zero, Nat.reduceAdd, List.cons_append, List.nil_append, List.eraseIdx_cons_zero, List.eraseIdx_cons_succ])) | (refine LS_gfnH rfl (by simp) ?_; intro hg; try (dsimp only [st, setL, AV.cells, List.set_cons_zero, List.set_cons_succ, List.drop_zero, List.drop_succ_cons, List.take_zero, List.take_succ_cons, Nat.zero_add, Nat.add_zero, Nat.reduceAdd, List.cons_append, List.nil_append, List.eraseIdx_cons_zero, List.eraseIdx_cons_succ])) | (refine LI_cond_fH rfl (by simp) ?_; intro hg)
        refine W ?_
        refine RET fun h' HL => ?_
        try dsimp only [oneA]
      · have hnn : 1 ≤ n ∧ n ≤ 100 := by simpa [shOk] using hok
        by_cases h1 : n = 1
        · subst h1
          have e1 : tpOk2 1 = false := by decide
          rw [e1]
          refine W ?_
          first | (refine LS_gtnH rfl (by simp; try decide) ?_; intro hg; try (dsimp only [st, setL, AV.cells, List.set_cons_zero, List.set_cons_succ, List.drop_zero, List.drop_succ_cons, List.take_zero, List.take_succ_cons, Nat.zero_add, Nat.add_zero, Nat.reduceAdd, List.cons_append, List.nil_append, List.eraseIdx_cons_zero, List.eraseIdx_cons_succ])) | (refine LS_gfnH rfl (by simp; try decide) ?_; intro hg; try (dsimp only [st, setL, AV.cells, List.set_cons_zero, List.set_cons_succ, List.drop_zero, List.drop_succ_cons, List.take_zero, List.take_succ_cons, Nat.zero_add, Nat.add_zero, Nat.reduceAdd, List.cons_append, List.nil_append, List.eraseIdx_cons_zero, List.eraseIdx_cons_succ])) | (refine LI_cond_fH rfl (by simp; try decide) ?_; intro hg)
          refine W ?_
          refine RET fun h' HL => ?_
          try dsimp only [oneA]
        · have e1 : tpOk2 n = true := by simp [tpOk2, h1, hok]
          have hw := way_ok n.toNat (by omega)
          rw [show ((n.toNat : Nat) : Int) = n by omega] at hw
          obtain ⟨f1, f2, f3, f4, f5, f6, f7⟩ : 2 ≤ (wayOf treeW n).length ∧ (wayOf treeW n).length ≤ 12 ∧ (wayOf treeW n)[(wayOf treeW n).length - 1]? = some n ∧ 1 ≤ tpR2 n ∧ tpR2 n ≤ 100 ∧ (wayOf treeW n)[(wayOf treeW n).length - 2]? = some (tpR2 n) ∧ wayOf treeW (tpR2 n) = (wayOf treeW n).take ((wayOf treeW n).length - 1) := by
            rcases hw with h | h | h
            · omega
            · omega
            · exact h
          have er : tpR n = wayOf treeW n := by rw [tpR, if_pos hok]
          have eo : shOk (tpR2 n) = true := by simp [shOk]; omega
          have er2 : tpR (tpR2 n) = (wayOf treeW n).take ((wayOf treeW n).length - 1) := by rw [tpR, if_pos eo, f7]
          have hta := fun (h' : AH) => implTP_ac (tpR2 n) h'
          rw [er2, eo] at hta
          rw [er] at lwp lww ⊢
          rw [e1]
          refine W ?_
          first | (refine LS_gtnH rfl (by simp; omega) ?_; intro hg; try (dsimp only [st, setL, AV.cells, List.set_cons_zero, List.set_cons_succ, List.drop_zero, List.drop_succ_cons, List.take_zero, List.take_succ_cons, Nat.zero_add, Nat.add_zero, Nat.reduceAdd, List.cons_append, List.nil_append, List.eraseIdx_cons_zero, List.eraseIdx_cons_succ])) | (refine LS_gfnH rfl (by simp; omega) ?_; intro hg; try (dsimp only [st, setL, AV.cells, List.set_cons_zero, List.set_cons_succ, List.drop_zero, List.drop_succ_cons, List.take_zero, List.take_succ_cons, Nat.zero_add, Nat.add_zero, Nat.reduceAdd, List.cons_append, List.nil_append, List.eraseIdx_cons_zero, List.eraseIdx_cons_succ])) | (refine LI_cond_fH rfl (by simp; omega) ?_; intro hg)
          refine W ?_
          refine LS_c1 (fun h' HL wf => hta h') rfl rfl ?_
          try (dsimp only [st, setL, AV.cells, List.set_cons_zero, List.set_cons_succ, List.drop_zero, List.drop_succ_cons, List.take_zero, List.take_succ_cons, Nat.zero_add, Nat.add_zero, Nat.reduceAdd, List.cons_append, List.nil_append, List.eraseIdx_cons_zero, List.eraseIdx_cons_succ])
          refine W ?_
          rintro _ _ ⟨wa, rfl, lwa, swa, rfl⟩
          try (dsimp only [st, setL, AV.cells, List.set_cons_zero, List.set_cons_succ, List.drop_zero, List.drop_succ_cons, List.take_zero, List.take_succ_cons, Nat.zero_add, Nat.add_zero, Nat.reduceAdd, List.cons_append, List.nil_append, List.eraseIdx_cons_zero, List.eraseIdx_cons_succ])
          refine W ?_
          refine LS_sz (u := (wayOf treeW n).length - 1) (ll := wayOf treeW n) (fun h' HL => HL.rdI 2 rfl enI1 (by decide)) enI1 (.inl ⟨rfl, rfl⟩) (.inr ⟨_, .i64, (wayOf treeW n).length - 1, rfl, rfl, by omega, by omega⟩) (by omega) (by omega) rfl fun wz lwz swz hRz => ?_
          try (dsimp only [st, setL, AV.cells, List.set_cons_zero, List.set_cons_succ, List.drop_zero, List.drop_succ_cons, List.take_zero, List.take_succ_cons, Nat.zero_add, Nat.add_zero, Nat.reduceAdd, List.cons_append, List.nil_append, List.eraseIdx_cons_zero, List.eraseIdx_cons_succ])
          refine W ?_
          refine LS_c0 (fun h' HL wf => by have H := rSame_ac ((wayOf treeW n).take ((wayOf treeW n).length - 1)) wa wz h' (HL.rdI 0 rfl enI1 (by decide)) (by have H2 := hRz _ (HL.rdI 2 rfl enI1 (by decide)); rw [List.drop_zero] at H2; exact H2) (by simp; omega); exact H) rfl rfl ?_
          try (dsimp only [st, setL, AV.cells, List.set_cons_zero, List.set_cons_succ, List.drop_zero, List.drop_succ_cons, List.take_zero, List.take_succ_cons, Nat.zero_add, Nat.add_zero, Nat.reduceAdd, List.cons_append, List.nil_append, List.eraseIdx_cons_zero, List.eraseIdx_cons_succ])
          refine W ?_
          refine LS_ix (y := n) (fun h' HL => HL.rdI 2 rfl enI1 (by decide)) enI1 (by rw [show (((wayOf treeW n).length : Int) - 1).toNat = (wayOf treeW n).length - 1 by omega]; exact f3) (by omega) rfl rfl fun q1 o1 hrow1 => ?_
          try (dsimp only [st, setL, AV.cells, List.set_cons_zero, List.set_cons_succ, List.drop_zero, List.drop_succ_cons, List.take_zero, List.take_succ_cons, Nat.zero_add, Nat.add_zero, Nat.reduceAdd, List.cons_append, List.nil_append, List.eraseIdx_cons_zero, List.eraseIdx_cons_succ])
          refine W ?_
          refine RET fun h' HL => ?_
          try dsimp only [oneA]
          simp
end Go.Proofs.Ytlgjakoeogpjlaa
