/- The walk of the law FnStarEnds, part 1: what each function that it reaches computes. -/
import Derived.Test.YtlgjakoeogpjlaaCFnStarEnds
namespace Go.Proofs.Ytlgjakoeogpjlaa
open Go.AL
set_option linter.unusedVariables false
set_option linter.unusedSimpArgs false
set_option maxRecDepth 100000
set_option maxHeartbeats 1000000
attribute [local irreducible] AS AI AIL OpR AC CW AWP ALoop LS LI LIL LThen LLoop LBlk LRet Lh AX OpV OpF

theorem nf {b : Bool} (h : (!b) = false) : b = true := by cases b <;> simp_all

theorem nt {b : Bool} (h : (!b) = true) : b = false := by cases b <;> simp_all

theorem in_ac (n lo hi : Int) (h : AH) : AC Try.prog 65 [.i .i64 n, .i .i64 lo, .i .i64 hi] h (fun v h' => v = .b (decide (lo ≤ n ∧ n ≤ hi)) ∧ h = h') := by
  refine e65 _ _ _ fun wf => ?_
  unfold c65
  repeat (first | refine AI_seqk fun K hK => ?_ | refine AI_reg ?_ | ((first | refine wmv rfl ?_ | refine wag rfl ?_ | refine war _ rfl rfl rfl (by omega) (by omega) ?_ | refine wbn rfl rfl rfl ?_ | refine wnt rfl ?_ | refine wex rfl rfl ?_ | refine wpt rfl (by first | assumption | with_reducible rfl) rfl ?_ | refine wpf rfl (by first | assumption | with_reducible rfl) rfl ?_ | refine wpb rfl rfl rfl ?_ | refine wmf rfl ?_ | refine wnc rfl ?_ | refine wbq Try.underlying4 rfl rfl _ (.inr ⟨rfl, rfl⟩) ?_ | refine wbq Try.underlying4 rfl rfl _ (.inl ⟨rfl, rfl⟩) ?_); try dsimp only [st, List.set_cons_zero, List.set_cons_succ]) | ((first | refine AS_nil ?_ | refine AI_skip ?_ | refine AI_exit ?_); try simp only [AThen, ABlk, reduceIte, reduceCtorEq]) | ((first | refine hK _ _ ?_ | ((first | clear hK K | clear IH hK K); refine hK _ _ ?_) | ((first | clear hK K | clear IH hK K); (first | clear hK K | clear IH hK K); refine hK _ _ ?_) | ((first | clear hK K | clear IH hK K); (first | clear hK K | clear IH hK K); (first | clear hK K | clear IH hK K); refine hK _ _ ?_)); try (first | clear hK K | clear IH hK K)) | refine AI_cond_t rfl (by first | assumption | with_reducible rfl) ?_ | refine AI_cond_f rfl (by first | assumption | with_reducible rfl) ?_ | refine AS_gy rfl (by first | assumption | with_reducible rfl) ?_ | refine AS_gtn rfl (by first | assumption | with_reducible rfl) ?_ | refine AS_gfn rfl (by first | assumption | with_reducible rfl) ?_ | refine AI_block (AI_loop ?_) | refine AI_block ?_ | refine AI_ret ⟨_, rfl, ?_⟩)
  (first | refine AS_gt rfl ?_ ?_ | refine AS_gf rfl ?_ ?_ | refine AI_cond rfl ?_ ?_) <;> intro hc <;> have hc' := hc <;> try simp only [decide_eq_true_eq, decide_eq_false_iff_not, Bool.not_eq_true', Bool.not_eq_false', Bool.not_eq_true, Bool.not_eq_false, beq_iff_eq, bne_iff_ne, beq_eq_false_iff_ne, bne_eq_false_iff_eq, Int.not_lt, Int.not_le, ge_iff_le, gt_iff_lt, not_and, ne_eq, Decidable.not_not] at hc'
  all_goals
    repeat (first | refine AI_seqk fun K hK => ?_ | refine AI_reg ?_ | ((first | refine wmv rfl ?_ | refine wag rfl ?_ | refine war _ rfl rfl rfl (by omega) (by omega) ?_ | refine wbn rfl rfl rfl ?_ | refine wnt rfl ?_ | refine wex rfl rfl ?_ | refine wpt rfl (by first | assumption | with_reducible rfl) rfl ?_ | refine wpf rfl (by first | assumption | with_reducible rfl) rfl ?_ | refine wpb rfl rfl rfl ?_ | refine wmf rfl ?_ | refine wnc rfl ?_ | refine wbq Try.underlying4 rfl rfl _ (.inr ⟨rfl, rfl⟩) ?_ | refine wbq Try.underlying4 rfl rfl _ (.inl ⟨rfl, rfl⟩) ?_); try dsimp only [st, List.set_cons_zero, List.set_cons_succ]) | ((first | refine AS_nil ?_ | refine AI_skip ?_ | refine AI_exit ?_); try simp only [AThen, ABlk, reduceIte, reduceCtorEq]) | ((first | refine hK _ _ ?_ | ((first | clear hK K | clear IH hK K); refine hK _ _ ?_) | ((first | clear hK K | clear IH hK K); (first | clear hK K | clear IH hK K); refine hK _ _ ?_) | ((first | clear hK K | clear IH hK K); (first | clear hK K | clear IH hK K); (first | clear hK K | clear IH hK K); refine hK _ _ ?_)); try (first | clear hK K | clear IH hK K)) | refine AI_cond_t rfl (by first | assumption | with_reducible rfl) ?_ | refine AI_cond_f rfl (by first | assumption | with_reducible rfl) ?_ | refine AS_gy rfl (by first | assumption | with_reducible rfl) ?_ | refine AS_gtn rfl (by first | assumption | with_reducible rfl) ?_ | refine AS_gfn rfl (by first | assumption | with_reducible rfl) ?_ | refine AI_block (AI_loop ?_) | refine AI_block ?_ | refine AI_ret ⟨_, rfl, ?_⟩)
  · exact ⟨by simp [hc', oneA], rfl⟩
  · exact ⟨by first | (simp [oneA, hc']; done) | (simp [oneA, hc']; omega), rfl⟩

theorem l1In_ac (n lo hi : Int) (h : AH) : AC Try.prog 62 [.i .i64 n, .i .i64 lo, .i .i64 hi] h (fun v h' => v = .b (decide (lo ≤ n ∧ n ≤ hi)) ∧ h = h') := by
  refine e62 _ _ _ fun wf => ?_
  unfold c62
  repeat (first | refine AI_seqk fun K hK => ?_ | refine AI_reg ?_ | ((first | refine wmv rfl ?_ | refine wag rfl ?_ | refine war _ rfl rfl rfl (by omega) (by omega) ?_ | refine wbn rfl rfl rfl ?_ | refine wnt rfl ?_ | refine wex rfl rfl ?_ | refine wpt rfl (by first | assumption | with_reducible rfl) rfl ?_ | refine wpf rfl (by first | assumption | with_reducible rfl) rfl ?_ | refine wpb rfl rfl rfl ?_ | refine wmf rfl ?_ | refine wnc rfl ?_ | refine wbq Try.underlying4 rfl rfl _ (.inr ⟨rfl, rfl⟩) ?_ | refine wbq Try.underlying4 rfl rfl _ (.inl ⟨rfl, rfl⟩) ?_); try dsimp only [st, List.set_cons_zero, List.set_cons_succ]) | ((first | refine AS_nil ?_ | refine AI_skip ?_ | refine AI_exit ?_); try simp only [AThen, ABlk, reduceIte, reduceCtorEq]) | ((first | refine hK _ _ ?_ | ((first | clear hK K | clear IH hK K); refine hK _ _ ?_) | ((first | clear hK K | clear IH hK K); (first | clear hK K | clear IH hK K); refine hK _ _ ?_) | ((first | clear hK K | clear IH hK K); (first | clear hK K | clear IH hK K); (first | clear hK K | clear IH hK K); refine hK _ _ ?_)); try (first | clear hK K | clear IH hK K)) | refine AI_cond_t rfl (by first | assumption | with_reducible rfl) ?_ | refine AI_cond_f rfl (by first | assumption | with_reducible rfl) ?_ | refine AS_gy rfl (by first | assumption | with_reducible rfl) ?_ | refine AS_gtn rfl (by first | assumption | with_reducible rfl) ?_ | refine AS_gfn rfl (by first | assumption | with_reducible rfl) ?_ | refine AI_block (AI_loop ?_) | refine AI_block ?_ | refine AI_ret ⟨_, rfl, ?_⟩)
  (first | refine AS_gt rfl ?_ ?_ | refine AS_gf rfl ?_ ?_ | refine AI_cond rfl ?_ ?_) <;> intro hc <;> have hc' := hc <;> try simp only [decide_eq_true_eq, decide_eq_false_iff_not, Bool.not_eq_true', Bool.not_eq_false', Bool.not_eq_true, Bool.not_eq_false, beq_iff_eq, bne_iff_ne, beq_eq_false_iff_ne, bne_eq_false_iff_eq, Int.not_lt, Int.not_le, ge_iff_le, gt_iff_lt, not_and, ne_eq, Decidable.not_not] at hc'
  all_goals
    repeat (first | refine AI_seqk fun K hK => ?_ | refine AI_reg ?_ | ((first | refine wmv rfl ?_ | refine wag rfl ?_ | refine war _ rfl rfl rfl (by omega) (by omega) ?_ | refine wbn rfl rfl rfl ?_ | refine wnt rfl ?_ | refine wex rfl rfl ?_ | refine wpt rfl (by first | assumption | with_reducible rfl) rfl ?_ | refine wpf rfl (by first | assumption | with_reducible rfl) rfl ?_ | refine wpb rfl rfl rfl ?_ | refine wmf rfl ?_ | refine wnc rfl ?_ | refine wbq Try.underlying4 rfl rfl _ (.inr ⟨rfl, rfl⟩) ?_ | refine wbq Try.underlying4 rfl rfl _ (.inl ⟨rfl, rfl⟩) ?_); try dsimp only [st, List.set_cons_zero, List.set_cons_succ]) | ((first | refine AS_nil ?_ | refine AI_skip ?_ | refine AI_exit ?_); try simp only [AThen, ABlk, reduceIte, reduceCtorEq]) | ((first | refine hK _ _ ?_ | ((first | clear hK K | clear IH hK K); refine hK _ _ ?_) | ((first | clear hK K | clear IH hK K); (first | clear hK K | clear IH hK K); refine hK _ _ ?_) | ((first | clear hK K | clear IH hK K); (first | clear hK K | clear IH hK K); (first | clear hK K | clear IH hK K); refine hK _ _ ?_)); try (first | clear hK K | clear IH hK K)) | refine AI_cond_t rfl (by first | assumption | with_reducible rfl) ?_ | refine AI_cond_f rfl (by first | assumption | with_reducible rfl) ?_ | refine AS_gy rfl (by first | assumption | with_reducible rfl) ?_ | refine AS_gtn rfl (by first | assumption | with_reducible rfl) ?_ | refine AS_gfn rfl (by first | assumption | with_reducible rfl) ?_ | refine AI_block (AI_loop ?_) | refine AI_block ?_ | refine AI_ret ⟨_, rfl, ?_⟩)
  · exact ⟨by simp [hc', oneA], rfl⟩
  · exact ⟨by first | (simp [oneA, hc']; done) | (simp [oneA, hc']; omega), rfl⟩

theorem drop_at {α : Type} {l : List α} {i : Int} (h0 : 0 ≤ i) (h1 : i < l.length) : ∃ y, l[i.toNat]? = some y ∧ y ∈ l ∧ l.drop i.toNat = y :: l.drop (i.toNat + 1) := by
  have hlt : i.toNat < l.length := by omega
  exact ⟨l[i.toNat], List.getElem?_eq_getElem hlt, List.getElem_mem hlt, List.drop_eq_getElem_cons hlt⟩

theorem toNat_succ {i : Int} (h0 : 0 ≤ i) : (i + 1).toNat = i.toNat + 1 := by omega

/-! ### The cursor that draws arguments: what it hands back, within bounds -/
def enU (n : Int) : List AV := [.i .u8 n]

theorem enU1 (x : Int) : (enU x).length = 1 := rfl

theorem and255 (x : Int) : 0 ≤ IntKind.i64.wrap (IntKind.u64.wrap (BitVec.ofInt IntKind.u64.bits x &&& BitVec.ofInt IntKind.u64.bits 255).toNat) ∧ IntKind.i64.wrap (IntKind.u64.wrap (BitVec.ofInt IntKind.u64.bits x &&& BitVec.ofInt IntKind.u64.bits 255).toNat) ≤ 255 := by
  have h : (BitVec.ofInt IntKind.u64.bits x &&& BitVec.ofInt IntKind.u64.bits 255).toNat ≤ 255 := by
    rw [BitVec.toNat_and]
    exact Nat.le_trans Nat.and_le_right (by decide)
  generalize (BitVec.ofInt IntKind.u64.bits x &&& BitVec.ofInt IntKind.u64.bits 255).toNat = k at *
  rw [IntWalk.u64_in _ (by omega), IntWalk.i64_in _ (by omega)]
  omega

theorem next_ac (bc : Nat) (cv : AV) (l : List Int) (ct sd : Int) (h0 h : AH) (L : List It) (HL : Loq h0 h (.pt bc [cv, .i .i64 ct, .i .u64 sd] :: L)) (hcv : RdG 1 enU h0 cv l) (hb : ∀ x ∈ l, 0 ≤ x ∧ x ≤ 255) (h1 : 0 ≤ ct) (h2 : ct ≤ 1099511627776) :
    AC Try.prog 93 [.p bc 0] h (fun r h' => ∃ M, (∃ x sd', r = .i .i64 x ∧ 0 ≤ x ∧ x ≤ 255 ∧ M = .pt bc [cv, .i .i64 (ct + 1), .i .u64 sd'] :: L) ∧ Loq h0 h' M) := by
  have hln := hcv.len
  refine e93 _ fun wf => ?_
  unfold c93
  refine LI_startL HL ?_
  refine W ?_
  refine dz93_0 ?_
  refine WX ?_
  refine W ?_
  refine LI_post (fun a M => ∃ (x : Int), (∃ r : Nat → AV, a = [.p bc 0, r 1, r 2, .i .i64 x, r 4, r 5, r 6, r 7, r 8, r 9, r 10, r 11, r 12, r 13, r 14, r 15, r 16, r 17, r 18, r 19, r 20, r 21, r 22, r 23, r 24, r 25, r 26, r 27, r 28, r 29, r 30, r 31, r 32, r 33, r 34, r 35, r 36, r 37, r 38, r 39, r 40, r 41, r 42, r 43, r 44, r 45, r 46, r 47, r 48, r 49, r 50, r 51, r 52, r 53, r 54, r 55, r 56, r 57, r 58, r 59, r 60, r 61]) ∧ M = .pt bc [cv, .i .i64 ct, .i .u64 sd] :: L ∧ 0 ≤ x ∧ x ≤ 255) ?_ ?_
  · (first | refine LS_gt rfl ?_ ?_ | refine LS_gf rfl ?_ ?_ | refine LI_cond rfl ?_ ?_) <;> intro hc <;> have hc' := hc <;> try simp only [decide_eq_true_eq, decide_eq_false_iff_not, Bool.not_eq_true', Bool.not_eq_false', Bool.not_eq_true, Bool.not_eq_false, beq_iff_eq, bne_iff_ne, beq_eq_false_iff_ne, bne_eq_false_iff_eq, Int.not_lt, Int.not_le, ge_iff_le, gt_iff_lt, not_and, ne_eq, Decidable.not_not] at hc'
    all_goals (try (dsimp only [st, setL, AV.cells, List.set_cons_zero, List.set_cons_succ, List.drop_zero, List.drop_succ_cons, List.take_zero, List.take_succ_cons, Nat.zero_add, Nat.add_zero, Nat.reduceAdd, List.cons_append, List.nil_append, List.eraseIdx_cons_zero, List.eraseIdx_cons_succ]))
    all_goals (refine W ?_)
    · obtain ⟨y, hy, hym, _⟩ := drop_at (l := l) h1 hc'
      have hyb := hb y hym
      have e : IntKind.i64.wrap y = y := IntWalk.i64_in _ (by omega)
      refine dz93_1 ?_
      refine WX ?_
      refine W ?_
      refine LX_ix (fun h' HL => hcv.le HL.le) enU1 hy h1 rfl rfl noG fun q1 o1 hrow1 => ?_
      try (dsimp only [st, setL, AV.cells, List.set_cons_zero, List.set_cons_succ, List.drop_zero, List.drop_succ_cons, List.take_zero, List.take_succ_cons, Nat.zero_add, Nat.add_zero, Nat.reduceAdd, List.cons_append, List.nil_append, List.eraseIdx_cons_zero, List.eraseIdx_cons_succ])
      refine WX ?_
      refine W ?_
      exact ⟨rfl, _, exJ rfl, rfl, by omega, by omega⟩
    · exact ⟨rfl, _, exJ rfl, rfl, by omega, by omega⟩
  · rintro _ _ ⟨x, ⟨r, rfl⟩, rfl, hx0, hx1⟩
    refine LThen_n ?_
    refine W ?_
    refine dz93_2 ?_
    refine WX ?_
    refine W ?_
    (first | refine LS_gt rfl ?_ ?_ | refine LS_gf rfl ?_ ?_ | refine LI_cond rfl ?_ ?_) <;> intro hc <;> have hc' := hc <;> try simp only [decide_eq_true_eq, decide_eq_false_iff_not, Bool.not_eq_true', Bool.not_eq_false', Bool.not_eq_true, Bool.not_eq_false, beq_iff_eq, bne_iff_ne, beq_eq_false_iff_ne, bne_eq_false_iff_eq, Int.not_lt, Int.not_le, ge_iff_le, gt_iff_lt, not_and, ne_eq, Decidable.not_not] at hc'
    all_goals (try (dsimp only [st, setL, AV.cells, List.set_cons_zero, List.set_cons_succ, List.drop_zero, List.drop_succ_cons, List.take_zero, List.take_succ_cons, Nat.zero_add, Nat.add_zero, Nat.reduceAdd, List.cons_append, List.nil_append, List.eraseIdx_cons_zero, List.eraseIdx_cons_succ]))
    all_goals (refine W ?_)
    · refine RET fun h' HL => ?_
      try dsimp only [oneA]
      exact ⟨_, ⟨x, _, rfl, hx0, hx1, rfl⟩, HL⟩
    · refine LS_v (OpV_shr rfl rfl (by omega)) ?_
      try (dsimp only [st, setL, AV.cells, List.set_cons_zero, List.set_cons_succ, List.drop_zero, List.drop_succ_cons, List.take_zero, List.take_succ_cons, Nat.zero_add, Nat.add_zero, Nat.reduceAdd, List.cons_append, List.nil_append, List.eraseIdx_cons_zero, List.eraseIdx_cons_succ])
      refine W ?_
      refine RET fun h' HL => ?_
      try dsimp only [oneA]
      exact ⟨_, ⟨_, _, rfl, (and255 _).1, (and255 _).2, rfl⟩, HL⟩

theorem pick_ac (n : Int) (bc : Nat) (cv : AV) (l : List Int) (ct sd : Int) (h0 h : AH) (L : List It) (HL : Loq h0 h (.pt bc [cv, .i .i64 ct, .i .u64 sd] :: L)) (hcv : RdG 1 enU h0 cv l) (hb : ∀ x ∈ l, 0 ≤ x ∧ x ≤ 255) (h1 : 0 ≤ ct) (h2 : ct ≤ 549755813888) :
    AC Try.prog 73 [.p bc 0, .i .i64 n] h (fun r h' => ∃ M, (∃ x ct' sd', r = .i .i64 x ∧ (0 ≤ x ∧ (x = 0 ∨ x < n)) ∧ (ct ≤ ct' ∧ ct' ≤ ct + 2) ∧ M = .pt bc [cv, .i .i64 ct', .i .u64 sd'] :: L) ∧ Loq h0 h' M) := by
  refine e73 _ _ fun wf => ?_
  unfold c73
  refine LI_startL HL ?_
  refine W ?_
  (first | refine LS_gt rfl ?_ ?_ | refine LS_gf rfl ?_ ?_ | refine LI_cond rfl ?_ ?_) <;> intro hc <;> have hc' := hc <;> try simp only [decide_eq_true_eq, decide_eq_false_iff_not, Bool.not_eq_true', Bool.not_eq_false', Bool.not_eq_true, Bool.not_eq_false, beq_iff_eq, bne_iff_ne, beq_eq_false_iff_ne, bne_eq_false_iff_eq, Int.not_lt, Int.not_le, ge_iff_le, gt_iff_lt, not_and, ne_eq, Decidable.not_not] at hc'
  all_goals (try (dsimp only [st, setL, AV.cells, List.set_cons_zero, List.set_cons_succ, List.drop_zero, List.drop_succ_cons, List.take_zero, List.take_succ_cons, Nat.zero_add, Nat.add_zero, Nat.reduceAdd, List.cons_append, List.nil_append, List.eraseIdx_cons_zero, List.eraseIdx_cons_succ]))
  all_goals (refine W ?_)
  · refine RET fun h' HL => ?_
    try dsimp only [oneA]
    exact ⟨_, ⟨0, ct, sd, rfl, ⟨by omega, .inl rfl⟩, by omega, rfl⟩, HL⟩
  · refine LS_cm (.refl _) (fun h' HL wf => next_ac bc cv l ct sd h0 h' L HL hcv hb h1 (by omega)) rfl rfl ?_
    try (dsimp only [st, setL, AV.cells, List.set_cons_zero, List.set_cons_succ, List.drop_zero, List.drop_succ_cons, List.take_zero, List.take_succ_cons, Nat.zero_add, Nat.add_zero, Nat.reduceAdd, List.cons_append, List.nil_append, List.eraseIdx_cons_zero, List.eraseIdx_cons_succ])
    refine W ?_
    rintro _ _ ⟨x, sd1, rfl, x0, x1, rfl⟩
    try (dsimp only [st, setL, AV.cells, List.set_cons_zero, List.set_cons_succ, List.drop_zero, List.drop_succ_cons, List.take_zero, List.take_succ_cons, Nat.zero_add, Nat.add_zero, Nat.reduceAdd, List.cons_append, List.nil_append, List.eraseIdx_cons_zero, List.eraseIdx_cons_succ])
    refine W ?_
    (first | refine LS_gt rfl ?_ ?_ | refine LS_gf rfl ?_ ?_ | refine LI_cond rfl ?_ ?_) <;> intro hc <;> have hc' := hc <;> try simp only [decide_eq_true_eq, decide_eq_false_iff_not, Bool.not_eq_true', Bool.not_eq_false', Bool.not_eq_true, Bool.not_eq_false, beq_iff_eq, bne_iff_ne, beq_eq_false_iff_ne, bne_eq_false_iff_eq, Int.not_lt, Int.not_le, ge_iff_le, gt_iff_lt, not_and, ne_eq, Decidable.not_not] at hc'
    all_goals (try (dsimp only [st, setL, AV.cells, List.set_cons_zero, List.set_cons_succ, List.drop_zero, List.drop_succ_cons, List.take_zero, List.take_succ_cons, Nat.zero_add, Nat.add_zero, Nat.reduceAdd, List.cons_append, List.nil_append, List.eraseIdx_cons_zero, List.eraseIdx_cons_succ]))
    all_goals (refine W ?_)
    · refine LS_cm (.refl _) (fun h' HL wf => next_ac bc cv l (ct + 1) sd1 h0 h' L HL hcv hb (by omega) (by omega)) rfl rfl ?_
      try (dsimp only [st, setL, AV.cells, List.set_cons_zero, List.set_cons_succ, List.drop_zero, List.drop_succ_cons, List.take_zero, List.take_succ_cons, Nat.zero_add, Nat.add_zero, Nat.reduceAdd, List.cons_append, List.nil_append, List.eraseIdx_cons_zero, List.eraseIdx_cons_succ])
      refine W ?_
      rintro _ _ ⟨y, sd2, rfl, y0, y1, rfl⟩
      try (dsimp only [st, setL, AV.cells, List.set_cons_zero, List.set_cons_succ, List.drop_zero, List.drop_succ_cons, List.take_zero, List.take_succ_cons, Nat.zero_add, Nat.add_zero, Nat.reduceAdd, List.cons_append, List.nil_append, List.eraseIdx_cons_zero, List.eraseIdx_cons_succ])
      refine W ?_
      refine LS_v (OpV_rem rfl rfl (by omega)) ?_
      try (dsimp only [st, setL, AV.cells, List.set_cons_zero, List.set_cons_succ, List.drop_zero, List.drop_succ_cons, List.take_zero, List.take_succ_cons, Nat.zero_add, Nat.add_zero, Nat.reduceAdd, List.cons_append, List.nil_append, List.eraseIdx_cons_zero, List.eraseIdx_cons_succ])
      refine W ?_
      have e := IntWalk.rem_in (x * 256 + y) n (by omega)
      have e1 := Int.emod_nonneg (x * 256 + y) (b := n) (by omega)
      have e2 := Int.emod_lt_of_pos (x * 256 + y) (b := n) (by omega)
      refine RET fun h' HL => ?_
      try dsimp only [oneA]
      exact ⟨_, ⟨_, ct + 1 + 1, _, rfl, by omega, by omega, rfl⟩, HL⟩
    · refine LS_v (OpV_rem rfl rfl (by omega)) ?_
      try (dsimp only [st, setL, AV.cells, List.set_cons_zero, List.set_cons_succ, List.drop_zero, List.drop_succ_cons, List.take_zero, List.take_succ_cons, Nat.zero_add, Nat.add_zero, Nat.reduceAdd, List.cons_append, List.nil_append, List.eraseIdx_cons_zero, List.eraseIdx_cons_succ])
      refine W ?_
      have e := IntWalk.rem_in x n (by omega)
      have e1 := Int.emod_nonneg x (b := n) (by omega)
      have e2 := Int.emod_lt_of_pos x (b := n) (by omega)
      refine RET fun h' HL => ?_
      try dsimp only [oneA]
      exact ⟨_, ⟨_, ct + 1, _, rfl, by omega, by omega, rfl⟩, HL⟩

theorem among_ac (li : List Int) (w : AV) (bc : Nat) (cv : AV) (l : List Int) (ct sd : Int) (h0 h : AH) (L : List It) (HL : Loq h0 h (.pt bc [cv, .i .i64 ct, .i .u64 sd] :: L)) (hw : ∀ h', Loq h0 h' L → Rd h' w li) (hl : 0 < li.length) (hcv : RdG 1 enU h0 cv l) (hb : ∀ x ∈ l, 0 ≤ x ∧ x ≤ 255) (h1 : 0 ≤ ct) (h2 : ct ≤ 549755813888) :
    AC Try.prog 74 [.p bc 0, w] h (fun r h' => ∃ M, (∃ x ct' sd', r = .i .i64 x ∧ x ∈ li ∧ (ct ≤ ct' ∧ ct' ≤ ct + 2) ∧ M = .pt bc [cv, .i .i64 ct', .i .u64 sd'] :: L) ∧ Loq h0 h' M) := by
  have hln := (hw h HL.tail).len
  refine e74 _ _ fun wf => ?_
  unfold c74
  refine LI_startL HL ?_
  refine W ?_
  refine LS_cm (.refl _) (fun h' HL wf => pick_ac li.length _ _ _ _ _ _ h' _ HL  hcv hb (by omega) (by omega)) rfl rfl ?_
  rintro _ _ ⟨x, ct1, sd1, rfl, hx, hct1, rfl⟩
  try (dsimp only [st, setL, AV.cells, List.set_cons_zero, List.set_cons_succ, List.drop_zero, List.drop_succ_cons, List.take_zero, List.take_succ_cons, Nat.zero_add, Nat.add_zero, Nat.reduceAdd, List.cons_append, List.nil_append, List.eraseIdx_cons_zero, List.eraseIdx_cons_succ])
  refine W ?_
  obtain ⟨y, hy, hym, _⟩ := drop_at (l := li) hx.1 (by omega)
  refine LS_ix (fun h' HL => hw h' HL.tail) enI1 hy hx.1 rfl rfl fun q1 o1 hrow1 => ?_
  try (dsimp only [st, setL, AV.cells, List.set_cons_zero, List.set_cons_succ, List.drop_zero, List.drop_succ_cons, List.take_zero, List.take_succ_cons, Nat.zero_add, Nat.add_zero, Nat.reduceAdd, List.cons_append, List.nil_append, List.eraseIdx_cons_zero, List.eraseIdx_cons_succ])
  refine W ?_
  refine RET fun h' HL => ?_
  try dsimp only [oneA]
  exact ⟨_, ⟨y, ct1, sd1, rfl, hym, hct1, rfl⟩, HL⟩

/-! ### What the laws draw -/
theorem bytes_in {l : List Int} (h : ∀ n ∈ l, (Lit.int .u8 n).wf = true) : ∀ x ∈ l, 0 ≤ x ∧ x ≤ 255 := fun x hx => by
  have := h x hx
  simp [Lit.wf, IntKind.min, IntKind.max, IntKind.signed, IntKind.bits] at this
  omega

theorem big_ac (c1 c2 : List Int) (v1 v2 : AV) (h : AH) (hR1 : RdG 1 enU h v1 c1) (hR2 : RdG 1 enU h v2 c2) (hm1 : c1.length ≤ 9223372036854775807) (hm2 : c2.length ≤ 9223372036854775807) :
    AC Try.prog 31 [v1, v2] h (fun r h' => r = .b (decide ((c1.length : Int) > 1048576) || decide ((c2.length : Int) > 1048576 - c1.length)) ∧ h.le h') := by
  have l1 := hR1.len
  have l2 := hR2.len
  refine e31 _ _ fun wf => ?_
  unfold c31
  refine LI_start wf ?_
  refine W ?_
  (first | refine LS_gt rfl ?_ ?_ | refine LS_gf rfl ?_ ?_ | refine LI_cond rfl ?_ ?_) <;> intro hc <;> have hc' := hc <;> try simp only [decide_eq_true_eq, decide_eq_false_iff_not, Bool.not_eq_true', Bool.not_eq_false', Bool.not_eq_true, Bool.not_eq_false, beq_iff_eq, bne_iff_ne, beq_eq_false_iff_ne, bne_eq_false_iff_eq, Int.not_lt, Int.not_le, ge_iff_le, gt_iff_lt, not_and, ne_eq, Decidable.not_not] at hc'
  all_goals (try (dsimp only [st, setL, AV.cells, List.set_cons_zero, List.set_cons_succ, List.drop_zero, List.drop_succ_cons, List.take_zero, List.take_succ_cons, Nat.zero_add, Nat.add_zero, Nat.reduceAdd, List.cons_append, List.nil_append, List.eraseIdx_cons_zero, List.eraseIdx_cons_succ]))
  all_goals (refine W ?_)
  · refine RET fun h' HL => ?_
    try dsimp only [oneA]
    exact ⟨by rw [hc, Bool.false_or], HL.le⟩
  · refine RET fun h' HL => ?_
    try dsimp only [oneA]
    exact ⟨by rw [hc, Bool.true_or], HL.le⟩

theorem big_f {c1 c2 : List Int} (h : (decide ((c1.length : Int) > 1048576) || decide ((c2.length : Int) > 1048576 - c1.length)) = false) : c1.length ≤ 1048576 ∧ c2.length ≤ 1048576 := by
  simp at h
  omega

theorem numberOf_ac (c1 : List Int) (v1 : AV) (h : AH) (hR1 : RdG 1 enU h v1 c1) (hm1 : c1.length ≤ 1048576) (hb : ∀ x ∈ c1, 0 ≤ x ∧ x ≤ 255) :
    AC Try.prog 55 [v1] h (fun r h' => (∃ x, r = .i .i64 x ∧ 0 ≤ x ∧ x ≤ 1000002) ∧ h.le h') := by
  have l1 := hR1.len
  refine e55 _ fun wf => ?_
  unfold c55
  refine LI_start wf ?_
  refine W ?_
  refine LIL_ind (fun k a L => ∃ (x i : Int), (∃ r : Nat → AV, a = [v1, r 1, r 2, .i .i64 x, r 4, r 5, v1, .i .i64 c1.length, .i .i64 i, r 9, r 10, r 11, r 12, r 13, r 14, r 15, r 16, r 17, r 18, r 19]) ∧ L = [] ∧ 0 ≤ i ∧ i + k = c1.length ∧ 0 ≤ x ∧ x ≤ 1000002)
    c1.length ⟨0, 0, exJ rfl, rfl, by omega, by omega, by omega, by omega⟩ ?_
  rintro k a L ⟨x, i, ⟨r, rfl⟩, rfl, h0, hk, hx0, hx1⟩ IH
  refine W ?_
  (first | refine LS_gt rfl ?_ ?_ | refine LS_gf rfl ?_ ?_ | refine LI_cond rfl ?_ ?_) <;> intro hc <;> have hc' := hc <;> try simp only [decide_eq_true_eq, decide_eq_false_iff_not, Bool.not_eq_true', Bool.not_eq_false', Bool.not_eq_true, Bool.not_eq_false, beq_iff_eq, bne_iff_ne, beq_eq_false_iff_ne, bne_eq_false_iff_eq, Int.not_lt, Int.not_le, ge_iff_le, gt_iff_lt, not_and, ne_eq, Decidable.not_not] at hc'
  all_goals (try (dsimp only [st, setL, AV.cells, List.set_cons_zero, List.set_cons_succ, List.drop_zero, List.drop_succ_cons, List.take_zero, List.take_succ_cons, Nat.zero_add, Nat.add_zero, Nat.reduceAdd, List.cons_append, List.nil_append, List.eraseIdx_cons_zero, List.eraseIdx_cons_succ]))
  all_goals (refine W ?_)
  · obtain ⟨y, hy, hym, _⟩ := drop_at (l := c1) h0 hc'
    have hyb := hb y hym
    have e : IntKind.i64.wrap y = y := IntWalk.i64_in _ (by omega)
    refine LS_ix (fun h' HL => hR1.le HL.le) enU1 hy h0 rfl rfl fun q1 o1 hrow1 => ?_
    try (dsimp only [st, setL, AV.cells, List.set_cons_zero, List.set_cons_succ, List.drop_zero, List.drop_succ_cons, List.take_zero, List.take_succ_cons, Nat.zero_add, Nat.add_zero, Nat.reduceAdd, List.cons_append, List.nil_append, List.eraseIdx_cons_zero, List.eraseIdx_cons_succ])
    refine W ?_
    refine LS_v (OpV_rem rfl rfl (by omega)) ?_
    try (dsimp only [st, setL, AV.cells, List.set_cons_zero, List.set_cons_succ, List.drop_zero, List.drop_succ_cons, List.take_zero, List.take_succ_cons, Nat.zero_add, Nat.add_zero, Nat.reduceAdd, List.cons_append, List.nil_append, List.eraseIdx_cons_zero, List.eraseIdx_cons_succ])
    refine W ?_
    have e1 := IntWalk.rem_in (31 * x + IntKind.i64.wrap y) 1000003 (by omega)
    have e2 := Int.emod_nonneg (31 * x + IntKind.i64.wrap y) (b := 1000003) (by omega)
    have e3 := Int.emod_lt_of_pos (31 * x + IntKind.i64.wrap y) (b := 1000003) (by omega)
    refine IH (k - 1) _ _ (by omega) ⟨_, i + 1, exJ rfl, rfl, by omega, by omega, by omega, by omega⟩
  · refine RET fun h' HL => ?_
    try dsimp only [oneA]
    exact ⟨⟨x, rfl, hx0, hx1⟩, HL.le⟩

theorem take_snoc {α : Type} {l : List α} {i : Nat} {y : α} (hy : l[i]? = some y) : l.take (i + 1) = l.take i ++ [y] := by rw [List.take_add_one, hy]; rfl

def ssI (v : AV) (us : List AV) (ll : List (List Int)) : List It := .sl v 1 (us.flatMap enV) :: (rowsI us ll ++ [])

theorem at_ {α : Type} {l : List α} {i : Nat} (h : i < l.length) : ∃ x, l[i]? = some x := ⟨_, List.getElem?_eq_getElem h⟩

structure PlP (h : AH) (b : Nat) (p : PlanM) (vs vo : AV) : Prop where
  row : h.row b 0 3 = some [.i .i64 p.n, vs, vo]
  steps : RdG 2 enStep h vs p.steps
  outs : Rd h vo p.outs

theorem PlP.le {h h' : AH} {b : Nat} {p : PlanM} {vs vo : AV} (H : PlP h b p vs vo) (hle : h.le h') : PlP h' b p vs vo := ⟨hle.row H.row, H.steps.le hle, H.outs.le hle⟩

def bump (l : List Int) (i : Int) : List Int := l.set i.toNat (l.getD i.toNat 0 + 1)

theorem loq_ns {h0 h : AH} {L : List It} (H : Loq h0 h L) (k : Nat) : Loq h0 h (.sl .ns k [] :: L) := H.cons (.inl ⟨rfl, rfl⟩) fun y hy => .sl fun b e => by cases e

/-- A list handed back, and whether. -/
def TupI (l : List Int) (ok : Bool) (r : AV) (M : List It) : Prop := ∃ w, r = .tup [w, .b ok] ∧ lenA w = some l.length ∧ w.sc = true ∧ M = [.sl w 1 (l.flatMap enI)]

theorem TupI.of {l : List Int} {ok : Bool} {h0 h : AH} {w : AV} (H : AL.Own h0 1 enI h w l) : ∃ M, TupI l ok (.tup [w, .b ok]) M ∧ Loq h0 h M := ⟨_, ⟨w, rfl, H.rd.len, rd_sc H.rd, rfl⟩, H.loc enI1⟩

theorem TupI.none {h0 h : AH} {L : List It} (H : Loq h0 h L) : ∃ M, TupI [] false (.tup [.ns, .b false]) M ∧ Loq h0 h M := ⟨_, ⟨.ns, rfl, rfl, rfl, rfl⟩, loq_ns (H.sub (List.nil_sublist _)) 1⟩

/-! ### Numbers of paths -/
def pathS (n : Int) (x : Int) (U : List Int) (i : Nat) (s : Int × Int) : List Int := if n + i = x then U else U.set (n + i).toNat (U.getD s.1.toNat 0 + U.getD s.2.toNat 0)

/-- What is known of the numbers when some steps have been done. -/
structure PathI (p : PlanM) (x : Int) (i : Nat) (U : List Int) : Prop where
  len : U.length = (p.n + p.steps.length).toNat
  at_ : U.getD x.toNat 0 = 1
  lo : ∀ j : Nat, (j : Int) < x → U.getD j 0 = 0
  hi : ∀ j : Nat, p.n + i ≤ j → (j : Int) ≠ x → U.getD j 0 = 0
  bd : ∀ j : Nat, 0 ≤ U.getD j 0 ∧ U.getD j 0 ≤ 2 ^ i

theorem getD_set {U : List Int} {j k : Nat} {y : Int} (hk : k < U.length) : (U.set k y).getD j 0 = if k = j then y else U.getD j 0 := by
  simp only [List.getD, List.getElem?_set]
  split
  · rename_i e; subst e; simp [hk]
  · rfl

theorem PathI.next {p : PlanM} {x : Int} {i : Nat} {U : List Int} {s : Int × Int} (H : PathI p x i U) (hn : 1 ≤ p.n) (hx : 0 ≤ x) (hi : i < p.steps.length) (h1 : 0 ≤ s.1) (h2 : s.1 ≤ s.2) (h3 : s.2 < p.n + i) : PathI p x (i + 1) (pathS p.n x U i s) := by
  have hp : (2 : Int) ^ (i + 1) = 2 * 2 ^ i := by rw [Int.pow_succ]; omega
  have hpos : (0 : Int) ≤ 2 ^ i := Int.pow_nonneg (by omega)
  unfold pathS
  split
  · rename_i e
    refine ⟨H.len, H.at_, H.lo, fun j hj hx => H.hi j (by omega) hx, fun j => ?_⟩
    have := H.bd j
    rw [hp]
    omega
  · rename_i e
    have hk : (p.n + i).toNat < U.length := by rw [H.len]; omega
    have hb1 := H.bd s.1.toNat
    have hb2 := H.bd s.2.toNat
    refine ⟨by simp [H.len], ?_, ?_, ?_, ?_⟩
    · rw [getD_set hk, if_neg (by omega)]; exact H.at_
    · intro j hj
      rw [getD_set hk]
      split
      · rw [H.lo _ (by omega), H.lo _ (by omega)]; rfl
      · exact H.lo j hj
    · intro j hj hx
      rw [getD_set hk, if_neg (by omega)]
      exact H.hi j (by omega) hx
    · intro j
      rw [getD_set hk, hp]
      split
      · omega
      · have := H.bd j; omega

/-! ### Values that are used later -/
def putL : List Int → Int → List Int
  | [], n => [n]
  | x :: l, n => if x < n then x :: putL l n else if x = n then x :: l else n :: x :: l

theorem putL_at : ∀ (k : Nat) (l : List Int) (n : Int), (∀ x ∈ l.take k, x < n) → putL l n = l.take k ++ putL (l.drop k) n
  | 0, l, n, _ => by simp
  | k + 1, [], n, _ => by simp
  | k + 1, x :: l, n, h => by
    have h1 : x < n := h x (by simp)
    rw [List.take_succ_cons, List.drop_succ_cons, List.cons_append, ← putL_at k l n fun y hy => h y (by simp [hy])]
    simp [putL, h1]

theorem take_lt {l : List Int} {k : Nat} {y n : Int} (hy : l[k]? = some y) (h : ∀ x ∈ l.take k, x < n) (hyn : y < n) : ∀ x ∈ l.take (k + 1), x < n := by
  intro x hx
  rw [List.take_add_one, hy] at hx
  simp only [Option.toList_some, List.mem_append, List.mem_singleton] at hx
  rcases hx with hx | rfl
  · exact h x hx
  · exact hyn

theorem lit1 {v : AV} (h : v.cells = [v]) (hs : v.cells.all AV.sc = true) : litA 1 0 [(0, v)] = some [v] := by
  unfold litA
  rw [if_pos ⟨rfl, by rw [h]; rfl, hs⟩]
  simp [litA, h]

theorem isShort_ac (n : Int) (h : AH) : AC Try.prog 59 [.i .i64 n] h (fun v h' => v = .b (decide (1 ≤ n ∧ n ≤ 100)) ∧ h = h') := by
  refine e59 _ fun wf => ?_
  unfold c59
  repeat (first | refine AI_seqk fun K hK => ?_ | refine AI_reg ?_ | ((first | refine wmv rfl ?_ | refine wag rfl ?_ | refine war _ rfl rfl rfl (by omega) (by omega) ?_ | refine wbn rfl rfl rfl ?_ | refine wnt rfl ?_ | refine wex rfl rfl ?_ | refine wpt rfl (by first | assumption | with_reducible rfl) rfl ?_ | refine wpf rfl (by first | assumption | with_reducible rfl) rfl ?_ | refine wpb rfl rfl rfl ?_ | refine wmf rfl ?_ | refine wnc rfl ?_ | refine wbq Try.underlying4 rfl rfl _ (.inr ⟨rfl, rfl⟩) ?_ | refine wbq Try.underlying4 rfl rfl _ (.inl ⟨rfl, rfl⟩) ?_); try dsimp only [st, List.set_cons_zero, List.set_cons_succ]) | ((first | refine AS_nil ?_ | refine AI_skip ?_ | refine AI_exit ?_); try simp only [AThen, ABlk, reduceIte, reduceCtorEq]) | ((first | refine hK _ _ ?_ | ((first | clear hK K | clear IH hK K); refine hK _ _ ?_) | ((first | clear hK K | clear IH hK K); (first | clear hK K | clear IH hK K); refine hK _ _ ?_) | ((first | clear hK K | clear IH hK K); (first | clear hK K | clear IH hK K); (first | clear hK K | clear IH hK K); refine hK _ _ ?_)); try (first | clear hK K | clear IH hK K)) | refine AI_cond_t rfl (by first | assumption | with_reducible rfl) ?_ | refine AI_cond_f rfl (by first | assumption | with_reducible rfl) ?_ | refine AS_gy rfl (by first | assumption | with_reducible rfl) ?_ | refine AS_gtn rfl (by first | assumption | with_reducible rfl) ?_ | refine AS_gfn rfl (by first | assumption | with_reducible rfl) ?_ | refine AI_block (AI_loop ?_) | refine AI_block ?_ | refine AI_ret ⟨_, rfl, ?_⟩)
  refine AS_op (OpR_call rfl rfl (in_ac _ _ _ _) ?_)
  rintro _ _ wf1 ⟨rfl, rfl⟩
  try (dsimp only [st, setL, AV.cells, List.set_cons_zero, List.set_cons_succ, List.drop_zero, List.drop_succ_cons, List.take_zero, List.take_succ_cons, Nat.zero_add, Nat.add_zero, Nat.reduceAdd, List.cons_append, List.nil_append, List.eraseIdx_cons_zero, List.eraseIdx_cons_succ])
  repeat (first | refine AI_seqk fun K hK => ?_ | refine AI_reg ?_ | ((first | refine wmv rfl ?_ | refine wag rfl ?_ | refine war _ rfl rfl rfl (by omega) (by omega) ?_ | refine wbn rfl rfl rfl ?_ | refine wnt rfl ?_ | refine wex rfl rfl ?_ | refine wpt rfl (by first | assumption | with_reducible rfl) rfl ?_ | refine wpf rfl (by first | assumption | with_reducible rfl) rfl ?_ | refine wpb rfl rfl rfl ?_ | refine wmf rfl ?_ | refine wnc rfl ?_ | refine wbq Try.underlying4 rfl rfl _ (.inr ⟨rfl, rfl⟩) ?_ | refine wbq Try.underlying4 rfl rfl _ (.inl ⟨rfl, rfl⟩) ?_); try dsimp only [st, List.set_cons_zero, List.set_cons_succ]) | ((first | refine AS_nil ?_ | refine AI_skip ?_ | refine AI_exit ?_); try simp only [AThen, ABlk, reduceIte, reduceCtorEq]) | ((first | refine hK _ _ ?_ | ((first | clear hK K | clear IH hK K); refine hK _ _ ?_) | ((first | clear hK K | clear IH hK K); (first | clear hK K | clear IH hK K); refine hK _ _ ?_) | ((first | clear hK K | clear IH hK K); (first | clear hK K | clear IH hK K); (first | clear hK K | clear IH hK K); refine hK _ _ ?_)); try (first | clear hK K | clear IH hK K)) | refine AI_cond_t rfl (by first | assumption | with_reducible rfl) ?_ | refine AI_cond_f rfl (by first | assumption | with_reducible rfl) ?_ | refine AS_gy rfl (by first | assumption | with_reducible rfl) ?_ | refine AS_gtn rfl (by first | assumption | with_reducible rfl) ?_ | refine AS_gfn rfl (by first | assumption | with_reducible rfl) ?_ | refine AI_block (AI_loop ?_) | refine AI_block ?_ | refine AI_ret ⟨_, rfl, ?_⟩)
  exact ⟨rfl, rfl⟩

theorem l1Own_ac (l : List Int) (v : AV) (h : AH) (hR : Rd h v l) (hl : l.length ≤ 1048576) :
    AC Try.prog 88 [v] h (fun r h' => AL.Own h 1 enI h' r l) := by
  refine e88 _ fun wf => ?_
  unfold c88
  refine LI_start wf ?_
  refine W ?_
  refine LS_lt ([] : List Int) rfl rfl (by decide) rfl rfl rfl rfl enI1 rfl rfl fun w1 h1 s1 => ?_
  try (dsimp only [st, setL, AV.cells, List.set_cons_zero, List.set_cons_succ, List.drop_zero, List.drop_succ_cons, List.take_zero, List.take_succ_cons, Nat.zero_add, Nat.add_zero, Nat.reduceAdd, List.cons_append, List.nil_append, List.eraseIdx_cons_zero, List.eraseIdx_cons_succ])
  refine W ?_
  refine LS_ap0 0 rfl (fun h' HL => hR.le HL.le) enI1 (by decide) (by simp; omega) (by simp; omega) rfl rfl rfl fun w2 hw2 sw2 => ?_
  try (dsimp only [st, setL, AV.cells, List.set_cons_zero, List.set_cons_succ, List.drop_zero, List.drop_succ_cons, List.take_zero, List.take_succ_cons, Nat.zero_add, Nat.add_zero, Nat.reduceAdd, List.cons_append, List.nil_append, List.eraseIdx_cons_zero, List.eraseIdx_cons_succ])
  refine W ?_
  refine RET fun h' HL => ?_
  try dsimp only [oneA]
  exact HL.ownI 0 rfl enI1 (by decide)

def TupQ (l : List MatM) (ok : Bool) (r : AV) (M : List It) : Prop := ∃ w, r = .tup [w, .b ok] ∧ lenA w = some l.length ∧ w.sc = true ∧ M = [.sl w 4 (l.flatMap enMat)]

theorem TupQ.of {l : List MatM} {ok : Bool} {h0 h : AH} {w : AV} (H : AL.Own h0 4 enMat h w l) : ∃ M, TupQ l ok (.tup [w, .b ok]) M ∧ Loq h0 h M := ⟨_, ⟨w, rfl, H.rd.len, rd_sc H.rd, rfl⟩, H.loc enMat4⟩

theorem TupQ.none {h0 h : AH} {L : List It} (H : Loq h0 h L) : ∃ M, TupQ [] false (.tup [.ns, .b false]) M ∧ Loq h0 h M := ⟨_, ⟨.ns, rfl, rfl, rfl, rfl⟩, loq_ns (H.sub (List.nil_sublist _)) 4⟩

def zeroP : AV := .agg [.i .i64 0, .ns, .ns]

/-- A plan handed back, and whether. -/
def TupP (q : PlanM) (ok : Bool) (r : AV) (M : List It) : Prop := ∃ ws wo, r = .tup [.agg [.i .i64 q.n, ws, wo], .b ok] ∧ lenA ws = some q.steps.length ∧ ws.sc = true ∧ lenA wo = some q.outs.length ∧ wo.sc = true ∧ M = [.sl ws 2 (q.steps.flatMap enStep), .sl wo 1 (q.outs.flatMap enI)]

theorem TupP.none {h0 h : AH} {L : List It} (H : Loq h0 h L) : ∃ M, TupP emptyPlan false (.tup [zeroP, .b false]) M ∧ Loq h0 h M := ⟨_, ⟨.ns, .ns, rfl, rfl, rfl, rfl, rfl, rfl⟩, loq_ns (loq_ns (H.sub (List.nil_sublist _)) 1) 2⟩

def TupPP (q1 q2 : PlanM) (ok : Bool) (r : AV) (M : List It) : Prop := ∃ ws wo xs xo, r = .tup [.agg [.i .i64 q1.n, ws, wo], .agg [.i .i64 q2.n, xs, xo], .b ok] ∧ (lenA ws = some q1.steps.length ∧ ws.sc = true ∧ lenA wo = some q1.outs.length ∧ wo.sc = true) ∧ (lenA xs = some q2.steps.length ∧ xs.sc = true ∧ lenA xo = some q2.outs.length ∧ xo.sc = true) ∧ M = [.sl ws 2 (q1.steps.flatMap enStep), .sl wo 1 (q1.outs.flatMap enI), .sl xs 2 (q2.steps.flatMap enStep), .sl xo 1 (q2.outs.flatMap enI)]

theorem TupPP.none {h0 h : AH} {L : List It} (H : Loq h0 h L) : ∃ M, TupPP emptyPlan emptyPlan false (.tup [zeroP, zeroP, .b false]) M ∧ Loq h0 h M := ⟨_, ⟨.ns, .ns, .ns, .ns, rfl, ⟨rfl, rfl, rfl, rfl⟩, ⟨rfl, rfl, rfl, rfl⟩, rfl⟩, loq_ns (loq_ns (loq_ns (loq_ns (H.sub (List.nil_sublist _)) 1) 2) 1) 2⟩

/-! ### Orders of the steps, as they are told one by one -/
theorem LO_apc {P : Program} {h0 : AH} {L : List It} {a : List AV} {d : Option Nat} {X : List AV → List It → Prop} {α : Type} {k : Nat} {enc : α → List AV} {T e : TypeId} {x y : Operand} {v u : AV} {ll l' : List α} {bytes : Nat} {z : AV} [i1 : Tsl P T e] [i2 : Tsz P e k] [i4 : Tby P e bytes] [i3 : Tze P e z]
    (hv : v = .ns ∨ ∃ b o n, v = .sl b o n true) (hRv : ∀ h, Loq h0 h L → RdG k enc h v ll) (hR : ∀ h, Loq h0 h L → RdG k enc h u l')
    (hke : ∀ x, (enc x).length = k) (hk0 : 0 < k) (hne : l' ≠ []) (hbd : (ll.length + l'.length) * bytes ≤ 140737488355328) (hbd2 : ll.length + l'.length ≤ 4611686018427387904) (hzl : z.cells.length = k)
    (hx : ev a x = some v) (hy : ev a y = some u) (H : ∀ w, lenA w = some (ll ++ l').length → w.sc = true → X (st a d w) (.sl w k ((ll ++ l').flatMap enc) :: L)) :
    LO P h0 L (.call { callee := .builtin .append, args := #[x, y], argTypes := #[T, T] }) d X a := by
  intro h HL
  have hRv' := hRv h HL
  have hR' := hR h HL
  rcases hv with rfl | ⟨b, o, n, rfl⟩
  · have hll : ll = [] := by
      have e := hRv'.len
      simp [lenA] at e
      exact List.eq_nil_of_length_eq_zero e.symm
    subst hll
    have HL1 : Loq h0 h (.sl .ns k (([] : List α).flatMap enc) :: L) := HL.cons (.inl ⟨rfl, rfl⟩) fun y hy => .sl fun b e => by cases e
    exact LO_ap (X := X) 0 rfl (fun h1 HL' => hR h1 HL'.tail) hke hk0 hne hbd hbd2 hzl hx hy H h HL1
  · rcases hRv'.rd with e1 | ⟨b', o', c', e1, hrow, _⟩
    · cases e1
    · injection e1 with q1 q2 q3 q4
      subst q1; subst q2; subst q3
      rcases hR'.rd with e2 | ⟨b2, o2, c2, rfl, hrow2, _⟩
      · subst e2
        have e := hR'.len
        simp [lenA] at e
        exact absurd (List.eq_nil_of_length_eq_zero e.symm) hne
      · have hpos : 0 < l'.length := List.length_pos_iff.2 hne
        exact OpR_append_clip i1.e i2.e i4.e i3.e hzl hx hy hpos hrow hrow2 hbd hbd2 ⟨_, HL.newS hke (ll ++ l') false (by simp) (by simp), H _ (by simp [lenA]) rfl⟩

def clipA : AV → AV
  | .sl b o n _ => .sl b o n true
  | v => v

theorem clipA_rd {h : AH} {v : AV} {l : List Int} (H : Rd h v l) : Rd h (clipA v) l := by
  rcases H.rd with rfl | ⟨b, o, c, rfl, h1, h2⟩
  · exact H
  · exact ⟨rfl, .inr ⟨b, o, true, rfl, h1, h2⟩⟩

theorem clipA_c {h : AH} {v : AV} {l : List Int} (H : Rd h v l) : clipA v = .ns ∨ ∃ b o n, clipA v = .sl b o n true := by
  rcases H.rd with rfl | ⟨b, o, c, rfl, h1, h2⟩
  · exact .inl rfl
  · exact .inr ⟨_, _, _, rfl⟩

theorem OpV_c3 {P : Program} {a : List AV} {T e : TypeId} {x hi mx : Operand} {b off len k : Nat} {c : Bool} {m : Int} [i1 : Tsl P T e] [i2 : Tsz P e k] (hx : ev a x = some (.sl b off len c)) (hh : ev a hi = some (.i .i64 m)) (hm : ev a mx = some (.i .i64 m)) (h1 : m = len) :
    OpV P (.slice T x none (some hi) (some mx)) a (.sl b off len true) := by
  unfold OpV
  intro ι ca hr o ho
  subst h1
  obtain ⟨pl, y, cap, hpl, hq, hle, hcl, hxx⟩ := rel_sl (ev_rel hr hx)
  have e1 := rel_i (ev_rel hr hh)
  have e2 := rel_i (ev_rel hr hm)
  have hrun : ∀ w, (Instr.sliceBounds true len cap none (some (ca.eval hi)) (some (ca.eval mx))).run P w = .ok (0, len, len) w := fun w => by
    simp [Instr.sliceBounds, e1, e2, AL.run_sliceBound (show (0 : Int) ≤ len by omega) (show ((len : Int)).toNat ≤ cap by omega), AL.run_sliceBound (show (0 : Int) ≤ len by omega) (show ((len : Int)).toNat ≤ len by omega)]
  refine ⟨.slice (some (if len = 0 then y else y.add (0 * k))) (len - 0) (len - 0), fun w => ?_, ?_⟩
  · unfold execOp
    simp only [ho, hq, Instr.sliceAt, Sem.run_bind, run_underlying i1.e, Result.andThen_ok, Option.map_none, Instr.slice, hrun, run_sizeOf_sz i2.e, Sem.run_pure, Option.map_some]
    by_cases e : len = 0 <;> simp [e]
  · refine .sl b off _ true pl _ len hpl (Nat.le_refl _) (fun _ => rfl) ?_
    by_cases e : len = 0
    · exact .inl e
    · rw [if_neg e]
      have hc0 : ¬ cap = 0 := by omega
      obtain ⟨e3, e4⟩ := hxx.resolve_left hc0
      refine .inr ⟨by rw [e3, add_none]; simp, ?_⟩
      have := Nat.mul_le_mul_right pl.k hle
      omega

theorem OpV_n3 {P : Program} {a : List AV} {T e : TypeId} {x hi mx : Operand} {k : Nat} [i1 : Tsl P T e] [i2 : Tsz P e k] (hx : ev a x = some .ns) (hh : ev a hi = some (.i .i64 0)) (hm : ev a mx = some (.i .i64 0)) :
    OpV P (.slice T x none (some hi) (some mx)) a .ns := by
  unfold OpV
  intro ι ca hr o ho
  have hq : ca.eval x = .slice none 0 0 := by
    have := ev_rel hr hx
    generalize ca.eval x = q at this
    cases this; rfl
  have e1 := rel_i (ev_rel hr hh)
  have e2 := rel_i (ev_rel hr hm)
  have hrun : ∀ w, (Instr.sliceBounds true 0 0 none (some (ca.eval hi)) (some (ca.eval mx))).run P w = .ok (0, 0, 0) w := fun w => by
    simp [Instr.sliceBounds, e1, e2, AL.run_sliceBound (show (0 : Int) ≤ 0 by omega) (show ((0 : Int)).toNat ≤ 0 by omega)]
  refine ⟨.slice none 0 0, fun w => ?_, .ns⟩
  unfold execOp
  simp only [ho, hq, Instr.sliceAt, Sem.run_bind, run_underlying i1.e, Result.andThen_ok, Option.map_none, Instr.slice, hrun, run_sizeOf_sz i2.e, Sem.run_pure, Option.map_some]
  simp

theorem Clip_ac (l : List Int) (v : AV) (h : AH) (hR : Rd h v l) (hl : l.length ≤ 1048576) : AC Try.prog 92 [v] h (fun r h' => r = clipA v ∧ h.le h') := by
  have hln := hR.len
  rcases hR.rd with rfl | ⟨b, o, c, rfl, _, _⟩
  · obtain rfl : l = [] := by simp [lenA] at hln; exact List.eq_nil_of_length_eq_zero hln.symm
    refine e92 _ fun wf => ?_
    unfold c92
    refine LI_start wf ?_
    refine W ?_
    refine LS_v (OpV_n3 rfl rfl rfl) ?_
    try (dsimp only [st, setL, AV.cells, List.set_cons_zero, List.set_cons_succ, List.drop_zero, List.drop_succ_cons, List.take_zero, List.take_succ_cons, Nat.zero_add, Nat.add_zero, Nat.reduceAdd, List.cons_append, List.nil_append, List.eraseIdx_cons_zero, List.eraseIdx_cons_succ])
    refine W ?_
    refine RET fun h' HL => ?_
    try dsimp only [oneA]
    exact ⟨rfl, HL.le⟩
  · refine e92 _ fun wf => ?_
    unfold c92
    refine LI_start wf ?_
    refine W ?_
    refine LS_v (OpV_c3 rfl rfl rfl rfl) ?_
    try (dsimp only [st, setL, AV.cells, List.set_cons_zero, List.set_cons_succ, List.drop_zero, List.drop_succ_cons, List.take_zero, List.take_succ_cons, Nat.zero_add, Nat.add_zero, Nat.reduceAdd, List.cons_append, List.nil_append, List.eraseIdx_cons_zero, List.eraseIdx_cons_succ])
    refine W ?_
    refine RET fun h' HL => ?_
    try dsimp only [oneA]
    exact ⟨rfl, HL.le⟩

theorem rSame_ac (l : List Int) (v u : AV) (h : AH) (hv : Rd h v l) (hu : Rd h u l) (hl : l.length ≤ 4611686018427387904) :
    AC Try.prog 38 [v, u] h (fun r h' => r = .b true ∧ h.le h') := by
  have hvl := hv.len
  have hul := hu.len
  refine e38 _ _ fun wf => ?_
  unfold c38
  refine LI_start wf ?_
  refine W ?_
  first | (refine LS_gtnH rfl (by simp) ?_; intro hg; try (dsimp only [st, setL, AV.cells, List.set_cons_zero, List.set_cons_succ, List.drop_zero, List.drop_succ_cons, List.take_zero, List.take_succ_cons, Nat.zero_add, Nat.add_zero, Nat.reduceAdd, List.cons_append, List.nil_append, List.eraseIdx_cons_zero, List.eraseIdx_cons_succ])) | (refine LS_gfnH rfl (by simp) ?_; intro hg; try (dsimp only [st, setL, AV.cells, List.set_cons_zero, List.set_cons_succ, List.drop_zero, List.drop_succ_cons, List.take_zero, List.take_succ_cons, Nat.zero_add, Nat.add_zero, Nat.reduceAdd, List.cons_append, List.nil_append, List.eraseIdx_cons_zero, List.eraseIdx_cons_succ])) | (refine LI_cond_fH rfl (by simp) ?_; intro hg)
  refine W ?_
  refine LIL_ind (fun k a L => ∃ (i : Int), (∃ r : Nat → AV, a = [v, u, r 2, r 3, .b false, r 5, r 6, r 7, r 8, r 9, r 10, r 11, .i .i64 l.length, .i .i64 i, r 14, r 15, r 16, r 17, r 18, r 19, r 20, r 21, r 22, r 23, r 24, r 25]) ∧ L = [] ∧ 0 ≤ i ∧ i + k = l.length)
    l.length ⟨0, exJ rfl, rfl, by omega, by omega⟩ ?_
  rintro k a L ⟨i, ⟨r, rfl⟩, rfl, h0, hk⟩ IH
  refine W ?_
  (first | refine LS_gt rfl ?_ ?_ | refine LS_gf rfl ?_ ?_ | refine LI_cond rfl ?_ ?_) <;> intro hc <;> have hc' := hc <;> try simp only [decide_eq_true_eq, decide_eq_false_iff_not, Bool.not_eq_true', Bool.not_eq_false', Bool.not_eq_true, Bool.not_eq_false, beq_iff_eq, bne_iff_ne, beq_eq_false_iff_ne, bne_eq_false_iff_eq, Int.not_lt, Int.not_le, ge_iff_le, gt_iff_lt, not_and, ne_eq, Decidable.not_not] at hc'
  all_goals (try (dsimp only [st, setL, AV.cells, List.set_cons_zero, List.set_cons_succ, List.drop_zero, List.drop_succ_cons, List.take_zero, List.take_succ_cons, Nat.zero_add, Nat.add_zero, Nat.reduceAdd, List.cons_append, List.nil_append, List.eraseIdx_cons_zero, List.eraseIdx_cons_succ]))
  all_goals (refine W ?_)
  · obtain ⟨y, hy, hym, _⟩ := drop_at (l := l) h0 hc'
    refine dz38_0 ?_
    refine WX ?_
    refine W ?_
    refine LX_ix (fun h' HL => hv.le HL.le) enI1 hy h0 rfl rfl noG fun q1 o1 hrow1 => ?_
    try (dsimp only [st, setL, AV.cells, List.set_cons_zero, List.set_cons_succ, List.drop_zero, List.drop_succ_cons, List.take_zero, List.take_succ_cons, Nat.zero_add, Nat.add_zero, Nat.reduceAdd, List.cons_append, List.nil_append, List.eraseIdx_cons_zero, List.eraseIdx_cons_succ])
    refine WX ?_
    refine W ?_
    refine LX_ix (fun h' HL => hu.le HL.le) enI1 hy h0 rfl rfl noG fun q2 o2 hrow2 => ?_
    try (dsimp only [st, setL, AV.cells, List.set_cons_zero, List.set_cons_succ, List.drop_zero, List.drop_succ_cons, List.take_zero, List.take_succ_cons, Nat.zero_add, Nat.add_zero, Nat.reduceAdd, List.cons_append, List.nil_append, List.eraseIdx_cons_zero, List.eraseIdx_cons_succ])
    refine WX ?_
    refine W ?_
    first | (refine LS_gtnH rfl (by simp) ?_; intro hg; try (dsimp only [st, setL, AV.cells, List.set_cons_zero, List.set_cons_succ, List.drop_zero, List.drop_succ_cons, List.take_zero, List.take_succ_cons, Nat.zero_add, Nat.add_zero, Nat.reduceAdd, List.cons_append, List.nil_append, List.eraseIdx_cons_zero, List.eraseIdx_cons_succ])) | (refine LS_gfnH rfl (by simp) ?_; intro hg; try (dsimp only [st, setL, AV.cells, List.set_cons_zero, List.set_cons_succ, List.drop_zero, List.drop_succ_cons, List.take_zero, List.take_succ_cons, Nat.zero_add, Nat.add_zero, Nat.reduceAdd, List.cons_append, List.nil_append, List.eraseIdx_cons_zero, List.eraseIdx_cons_succ])) | (refine LI_cond_fH rfl (by simp) ?_; intro hg)
    refine W ?_
    refine IH (k - 1) _ _ (by omega) ⟨i + 1, exJ rfl, rfl, by omega, by omega⟩
  · refine RET fun h' HL => ?_
    try dsimp only [oneA]
    exact ⟨rfl, HL.le⟩

/-! ### Star chains: plain laws -/
def lastD (c : List Int) : Int := c.getLastD 0

theorem lastD_snoc (c : List Int) (x : Int) : lastD (c ++ [x]) = x := by simp [lastD]

/-- All star chains that go on a chain by so many elements and end in n, in order. -/
def allS (n : Int) : Nat → List Int → List (List Int)
  | 0, c => if lastD c = n then [c] else []
  | k + 1, c => c.flatMap fun x => allS n k (c ++ [lastD c + x])

def goodC (c : List Int) : Prop := c ≠ [] ∧ ∀ x ∈ c, 1 ≤ x ∧ x ≤ lastD c

theorem goodC_one : goodC [1] := ⟨by simp, by simp [lastD]⟩

theorem goodC.last {c : List Int} (h : goodC c) : 1 ≤ lastD c := by
  obtain ⟨h1, h2⟩ := h
  cases c with
  | nil => exact absurd rfl h1
  | cons x l => have := h2 x (by simp); omega

theorem goodC_snoc {c : List Int} (h : goodC c) {x : Int} (hx : x ∈ c) : goodC (c ++ [lastD c + x]) := by
  have h1 := h.2 x hx
  refine ⟨by simp, fun y hy => ?_⟩
  rw [lastD_snoc]
  rcases List.mem_append.1 hy with hy | hy
  · have := h.2 y hy; omega
  · rw [List.mem_singleton.1 hy]; have := h.last; omega

theorem allS_gt {n : Int} : ∀ (k : Nat) (c : List Int), goodC c → n < lastD c → allS n k c = []
  | 0, c, _, h => by rw [allS, if_neg (by omega)]
  | k + 1, c, hg, h => by
    rw [allS, List.flatMap_eq_nil_iff]
    intro x hx
    have := hg.2 x hx
    exact allS_gt k _ (goodC_snoc hg hx) (by rw [lastD_snoc]; omega)

theorem allS_ge {n : Int} (k : Nat) (c : List Int) (hg : goodC c) (h : n ≤ lastD c) : allS n (k + 1) c = [] := by
  rw [allS, List.flatMap_eq_nil_iff]
  intro x hx
  have := hg.2 x hx
  exact allS_gt k _ (goodC_snoc hg hx) (by rw [lastD_snoc]; omega)

theorem allS_lt {n : Int} : ∀ (k : Nat) (c : List Int), goodC c → lastD c * 2 ^ k < n → allS n k c = []
  | 0, c, _, h => by rw [allS, if_neg (by simp at h; omega)]
  | k + 1, c, hg, h => by
    rw [allS, List.flatMap_eq_nil_iff]
    intro x hx
    have h1 := hg.2 x hx
    refine allS_lt k _ (goodC_snoc hg hx) ?_
    rw [lastD_snoc]
    have h2 : (lastD c + x) * 2 ^ k ≤ (2 * lastD c) * 2 ^ k := Int.mul_le_mul_of_nonneg_right (by omega) (Int.le_of_lt (Int.pow_pos (by omega)))
    rw [Int.pow_succ] at h
    have h3 : 2 * lastD c * 2 ^ k = lastD c * (2 ^ k * 2) := by rw [Int.mul_comm 2, Int.mul_assoc, Int.mul_comm 2]
    omega

/-- What the program's search does, that hands on chain after chain until one is enough. -/
def foldU {σ : Type} (f : σ → List Int → σ × Bool) : σ → List (List Int) → σ × Bool
  | s, [] => (s, false)
  | s, c :: cs => if (f s c).2 = true then ((f s c).1, true) else foldU f (f s c).1 cs

theorem foldU_app {σ : Type} (f : σ → List Int → σ × Bool) : ∀ (l1 l2 : List (List Int)) (s : σ), foldU f s (l1 ++ l2) = if (foldU f s l1).2 = true then foldU f s l1 else foldU f (foldU f s l1).1 l2
  | [], l2, s => by simp [foldU]
  | c :: cs, l2, s => by
    rw [List.cons_append, foldU, foldU]
    by_cases h : (f s c).2 = true
    · simp [h]
    · simp only [h, if_false, Bool.false_eq_true]
      exact foldU_app f cs l2 _

/-! How many go on. -/
def liveQ (n : Int) : Nat → List Int → List Int → List Int
  | 0, c, cnt => if n < lastD c ∨ lastD c < n then cnt else bump cnt (c.length - 1 : Nat)
  | k + 1, c, cnt => if n < lastD c ∨ lastD c * 2 ^ (k + 1) < n then cnt else c.foldl (fun cnt x => liveQ n k (c ++ [lastD c + x]) cnt) (bump cnt (c.length - 1 : Nat))

theorem bump_len (l : List Int) (j : Int) : (bump l j).length = l.length := by simp [bump]

theorem bump_get {l : List Int} {j i : Nat} (hj : j < l.length) : (bump l (j : Nat)).getD i 0 = if i = j then l.getD i 0 + 1 else l.getD i 0 := by
  simp only [bump, Int.toNat_natCast, List.getD, List.getElem?_set]
  by_cases h : j = i
  · subst h; simp [hj]
  · rw [if_neg h, if_neg (fun e => h e.symm)]

theorem bump_le {l : List Int} {j : Nat} (i : Nat) : l.getD i 0 ≤ (bump l (j : Nat)).getD i 0 ∧ (bump l (j : Nat)).getD i 0 ≤ l.getD i 0 + 1 := by
  by_cases hj : j < l.length
  · rw [bump_get hj]; split <;> omega
  · have : bump l (j : Nat) = l := by
      simp only [bump, Int.toNat_natCast]
      exact List.set_eq_of_length_le (by omega)
    rw [this]; omega

theorem fold_len {α : Type} {f : List Int → α → List Int} : ∀ (l : List α) (s : List Int), (∀ s x, x ∈ l → (f s x).length = s.length) → (l.foldl f s).length = s.length
  | [], s, _ => rfl
  | x :: l, s, h => by rw [List.foldl_cons, fold_len l _ (fun s y hy => h s y (by simp [hy])), h s x (by simp)]

theorem liveQ_len {n : Int} : ∀ (k : Nat) (c cnt : List Int), (liveQ n k c cnt).length = cnt.length
  | 0, c, cnt => by rw [liveQ]; split <;> simp [bump_len]
  | k + 1, c, cnt => by
    rw [liveQ]
    split
    · rfl
    · rw [fold_len _ _ fun s x _ => liveQ_len k _ s, bump_len]

/-- How much the counts can grow. -/
def growB : Nat → Nat → Int
  | 0, _ => 1
  | k + 1, l => 1 + l * growB k (l + 1)

theorem growB_pos : ∀ (k l : Nat), 1 ≤ growB k l
  | 0, _ => by rw [growB]; omega
  | k + 1, l => by
    have := Int.mul_nonneg (show (0 : Int) ≤ l by omega) (show 0 ≤ growB k (l + 1) by have := growB_pos k (l + 1); omega)
    rw [growB]; omega

theorem fold_bd {α : Type} {f : List Int → α → List Int} {B : Int} (i : Nat) : ∀ (l : List α) (s : List Int), (∀ s x, x ∈ l → s.getD i 0 ≤ (f s x).getD i 0 ∧ (f s x).getD i 0 ≤ s.getD i 0 + B) → s.getD i 0 ≤ (l.foldl f s).getD i 0 ∧ (l.foldl f s).getD i 0 ≤ s.getD i 0 + l.length * B
  | [], s, _ => by simp
  | x :: l, s, h => by
    have h1 := h s x (by simp)
    have h2 := fold_bd i l (f s x) (fun s y hy => h s y (by simp [hy]))
    rw [List.foldl_cons, List.length_cons, show ((l.length + 1 : Nat) : Int) * B = l.length * B + B by rw [Int.natCast_add, Int.add_mul]; simp]
    omega

theorem liveQ_bd {n : Int} (i : Nat) : ∀ (k : Nat) (c cnt : List Int), cnt.getD i 0 ≤ (liveQ n k c cnt).getD i 0 ∧ (liveQ n k c cnt).getD i 0 ≤ cnt.getD i 0 + growB k c.length
  | 0, c, cnt => by
    rw [liveQ, growB]
    split
    · omega
    · exact bump_le i
  | k + 1, c, cnt => by
    have hp := growB_pos (k + 1) c.length
    rw [liveQ, growB] at *
    split
    · omega
    · have h1 := bump_le (l := cnt) (j := c.length - 1) i
      have h2 := fold_bd (f := fun cnt x => liveQ n k (c ++ [lastD c + x]) cnt) (B := growB k (c.length + 1)) i c (bump cnt (c.length - 1 : Nat)) (fun s x _ => by have := liveQ_bd (n := n) i k (c ++ [lastD c + x]) s; rwa [List.length_append, List.length_singleton] at this)
      omega

theorem liveQ_cnt {n : Int} {m : Nat} : ∀ (k : Nat) (c cnt : List Int), goodC c → c.length - 1 + k = m → m < cnt.length → (liveQ n k c cnt).getD m 0 = cnt.getD m 0 + (allS n k c).length
  | 0, c, cnt, hg, hm, hl => by
    rw [liveQ, allS]
    by_cases h : lastD c = n
    · rw [if_neg (by omega), if_pos h, bump_get (by omega), if_pos (by omega)]; simp
    · rw [if_pos (by omega), if_neg h]; simp
  | k + 1, c, cnt, hg, hm, hl => by
    rw [liveQ]
    have hne : 1 ≤ c.length := by have := hg.1; cases c with | nil => exact absurd rfl this | cons _ _ => simp
    split
    · rename_i h
      have : allS n (k + 1) c = [] := by
        rcases h with h | h
        · exact allS_gt _ _ hg h
        · exact allS_lt _ _ hg h
      rw [this]; simp
    · have hf : ∀ (l s : List Int), (∀ x ∈ l, x ∈ c) → m < s.length → (l.foldl (fun cnt x => liveQ n k (c ++ [lastD c + x]) cnt) s).getD m 0 = s.getD m 0 + (l.flatMap fun x => allS n k (c ++ [lastD c + x])).length := by
        intro l
        induction l with
        | nil => intro s _ _; simp
        | cons x l ih =>
          intro s hs hsl
          rw [List.foldl_cons, ih _ (fun y hy => hs y (by simp [hy])) (by rw [liveQ_len]; exact hsl), liveQ_cnt k _ s (goodC_snoc hg (hs x (by simp))) (by simp; omega) hsl, List.flatMap_cons, List.length_append]
          omega
      rw [hf c _ (fun x h => h) (by rw [bump_len]; exact hl), bump_get (by omega), if_neg (by omega)]
      rfl

/-! ### The power tree: plain laws -/
def putN (n : Int) : List Int → List Int
  | [] => [n]
  | x :: l => if x < n then x :: putN n l else if x = n then x :: l else n :: x :: l

/-! ### The ends of star chains: plain laws -/
def allE : Nat → List Int → List Int
  | 0, c => [lastD c]
  | k + 1, c => c.flatMap fun x => allE k (c ++ [lastD c + x])

theorem allE_mem {n : Int} : ∀ (k : Nat) (c : List Int), n ∈ allE k c ↔ allS n k c ≠ []
  | 0, c => by
    rw [allE, allS]
    by_cases h : lastD c = n
    · rw [if_pos h]; simp [h]
    · rw [if_neg h]; simp; exact fun e => h e.symm
  | k + 1, c => by
    rw [allE, allS, List.mem_flatMap]
    constructor
    · rintro ⟨x, hx, h⟩ e
      rw [List.flatMap_eq_nil_iff] at e
      exact (allE_mem k _).1 h (e x hx)
    · intro h
      refine Classical.byContradiction fun hno => h ?_
      rw [List.flatMap_eq_nil_iff]
      intro x hx
      refine Classical.byContradiction fun e => hno ⟨x, hx, (allE_mem k _).2 e⟩

theorem putN_mem {n : Int} (m : Int) : ∀ (l : List Int), n ∈ putN m l ↔ n = m ∨ n ∈ l
  | [] => by simp [putN]
  | x :: l => by
    rw [putN]
    split
    · rw [List.mem_cons, List.mem_cons, putN_mem m l]
      constructor
      · rintro (h | h | h) <;> simp [h]
      · rintro (h | h | h) <;> simp [h]
    · split
      · rename_i h; rw [h]; simp
      · simp

theorem putN_sorted (m : Int) : ∀ (l : List Int), l.Pairwise (· < ·) → (putN m l).Pairwise (· < ·)
  | [], _ => by simp [putN]
  | x :: l, h => by
    rw [List.pairwise_cons] at h
    rw [putN]
    split
    · rename_i hx
      rw [List.pairwise_cons]
      refine ⟨fun y hy => ?_, putN_sorted m l h.2⟩
      rcases (putN_mem m l).1 hy with rfl | hy
      · exact hx
      · exact h.1 y hy
    · split
      · exact List.pairwise_cons.2 h
      · rename_i h1 h2
        rw [List.pairwise_cons]
        refine ⟨fun y hy => ?_, List.pairwise_cons.2 h⟩
        rcases List.mem_cons.1 hy with rfl | hy
        · omega
        · have := h.1 y hy; omega

/-- Two rising lists with the same elements are one. -/
theorem rise_ext : ∀ (l l' : List Int), l.Pairwise (· < ·) → l'.Pairwise (· < ·) → (∀ n, n ∈ l ↔ n ∈ l') → l = l'
  | [], [], _, _, _ => rfl
  | [], y :: l', _, _, h => by have := (h y).2 (by simp); simp at this
  | x :: l, [], _, _, h => by have := (h x).1 (by simp); simp at this
  | x :: l, y :: l', h1, h2, h => by
    rw [List.pairwise_cons] at h1 h2
    have hxy : x = y := by
      rcases List.mem_cons.1 ((h x).1 (by simp)) with e | e
      · exact e
      · rcases List.mem_cons.1 ((h y).2 (by simp)) with e' | e'
        · exact e'.symm
        · have := h2.1 x e
          have := h1.1 y e'
          omega
    subst hxy
    congr 1
    refine rise_ext l l' h1.2 h2.2 fun n => ⟨fun hn => ?_, fun hn => ?_⟩
    · rcases List.mem_cons.1 ((h n).1 (by simp [hn])) with e | e
      · have := h1.1 n hn; omega
      · exact e
    · rcases List.mem_cons.1 ((h n).2 (by simp [hn])) with e | e
      · have := h2.1 n hn; omega
      · exact e

/-- All ends in rising order, as the reference keeps them. -/
def endsL (k : Nat) : List Int := (allE k [1]).foldl (fun l n => putN n l) []

theorem foldP_mem {n : Int} : ∀ (es l : List Int), n ∈ es.foldl (fun l n => putN n l) l ↔ n ∈ es ∨ n ∈ l
  | [], l => by simp
  | e :: es, l => by
    rw [List.foldl_cons, foldP_mem es, putN_mem, List.mem_cons]
    constructor
    · rintro (h | h | h) <;> simp [h]
    · rintro ((h | h) | h) <;> simp [h]

theorem foldP_sorted : ∀ (es l : List Int), l.Pairwise (· < ·) → (es.foldl (fun l n => putN n l) l).Pairwise (· < ·)
  | [], l, h => h
  | e :: es, l, h => foldP_sorted es _ (putN_sorted e l h)

theorem endsL_mem {n : Int} (k : Nat) : n ∈ endsL k ↔ allS n k [1] ≠ [] := by rw [endsL, foldP_mem, ← allE_mem]; simp

theorem endsL_sorted (k : Nat) : (endsL k).Pairwise (· < ·) := foldP_sorted _ _ .nil

theorem endsL_small : ∀ k : Nat, k < 7 → (endsL k).head? = some ((k : Int) + 1) ∧ (endsL k).getLast? = some (2 ^ k : Int) ∧ (endsL k).length ≤ 64 := by decide +kernel

/-! ### The reference's search -/
theorem lastD_at {c : List Int} (hg : goodC c) : c[((c.length : Int) - 1).toNat]? = some (lastD c) := by
  have hne := hg.1
  have hl : 0 < c.length := List.length_pos_iff.2 hne
  rw [show ((c.length : Int) - 1).toNat = c.length - 1 by omega, ← List.getLast?_eq_getElem?, lastD]
  cases c with
  | nil => exact absurd rfl hne
  | cons x l => simp [List.getLastD, List.getLast?]

theorem shl_small {m : Int} {k : Nat} (hk : k ≤ 12) (h0 : 0 ≤ m) (h1 : m ≤ 200) : IntKind.i64.wrap (m * 2 ^ min (((k + 1 : Nat) : Int) - 1).toNat IntKind.i64.bits) = m * 2 ^ k := by
  have e : min (((k + 1 : Nat) : Int) - 1).toNat IntKind.i64.bits = k := by
    have : IntKind.i64.bits = 64 := rfl
    omega
  rw [e]
  obtain ⟨hp, hp0⟩ := (show ∀ j : Nat, j < 13 → (2 : Int) ^ j ≤ 4096 ∧ (0 : Int) < 2 ^ j by decide) k (by omega)
  have h2 : m * 2 ^ k ≤ 200 * 4096 := Int.mul_le_mul h1 hp (by omega) (by omega)
  have h3 : 0 ≤ m * 2 ^ k := Int.mul_nonneg h0 (by omega)
  exact IntWalk.i64_in _ ⟨by omega, by omega⟩

/-! ### The program's search -/
theorem perm_in2 (M Lr : List It) (x y : It) : (x :: y :: (M ++ Lr)).Perm (M ++ (x :: y :: Lr)) :=
  ((List.perm_middle (l₁ := M) (a := y) (l₂ := Lr)).symm.cons x).trans (List.perm_middle (l₁ := M) (a := x) (l₂ := y :: Lr)).symm

theorem shl_small' {m z : Int} {k : Nat} (hz : z = k) (hk : k ≤ 12) (h0 : 0 ≤ m) (h1 : m ≤ 200) : IntKind.i64.wrap (m * 2 ^ min z.toNat IntKind.i64.bits) = m * 2 ^ k := by
  have := shl_small (m := m) (k := k) hk h0 h1
  rw [show ((k + 1 : Nat) : Int) - 1 = z by omega] at this
  exact this

theorem foldU_good {σ : Type} {step : σ → List Int → σ × Bool} {Good : σ → Prop} (hG : ∀ s c, Good s → (step s c).2 = false → Good (step s c).1) : ∀ (l : List (List Int)) (s : σ), Good s → (foldU step s l).2 = false → Good (foldU step s l).1
  | [], s, h, _ => h
  | c :: l, s, h, e => by
    rw [foldU] at e ⊢
    by_cases hc : (step s c).2 = true
    · rw [if_pos hc] at e; cases e
    · rw [if_neg hc] at e ⊢
      exact foldU_good hG l _ (hG s c h (by simpa using hc)) e

theorem stars_ac {σ : Type} (n : Int) (hn : 1 ≤ n ∧ n ≤ 100) (len : Nat) (hlen : len ≤ 12) (g : FuncId) (caps : List AV) (step : σ → List Int → σ × Bool) (R : σ → List It → Prop) (Good : σ → Prop)
    (hG : ∀ s c, Good s → (step s c).2 = false → Good (step s c).1)
    (hE : ∀ (s : σ) (c : List Int) (w : AV) (h0 h : AH) (M Lr : List It), Good s → R s M → Loq h0 h (M ++ Lr) → (∀ h', Loq h0 h' Lr → Rd h' w c) → c.length ≤ 13 → AC Try.prog g (w :: caps) h (fun r h' => ∃ N, (∃ M1, r = .b (step s c).2 ∧ R (step s c).1 M1 ∧ N = M1 ++ Lr) ∧ Loq h0 h' N)) :
    ∀ (k : Nat) (c : List Int) (w : AV) (s : σ) (h0 h : AH) (M Lr : List It), c.length + k = len + 1 → goodC c → lastD c ≤ 200 → Good s → R s M → Loq h0 h (M ++ Lr) → (∀ h', Loq h0 h' Lr → Rd h' w c) →
    AC Try.prog 70 [.i .i64 n, .i .i64 (len : Nat), w, .f g caps] h (fun r h' => ∃ N, (∃ M1, r = .b (foldU step s (allS n k c)).2 ∧ R (foldU step s (allS n k c)).1 M1 ∧ N = M1 ++ Lr) ∧ Loq h0 h' N)
  | 0, c, w, s, h0, h, M, Lr, hk, hg, hl, hs, hRs, HL, hw => by
    have hR := hw h (HL.sub (List.sublist_append_right _ _))
    have hln := hR.len
    have hcl : 0 < c.length := List.length_pos_iff.2 hg.1
    refine e70 _ _ _ _ fun wf => ?_
    unfold c70
    refine LI_startL HL ?_
    refine W ?_
    refine LS_ix (y := lastD c) (fun h' HL' => hw h' (HL'.sub (List.sublist_append_right _ _))) enI1 (lastD_at hg) (by omega) rfl rfl fun q1 o1 hrow1 => ?_
    try (dsimp only [st, setL, AV.cells, List.set_cons_zero, List.set_cons_succ, List.drop_zero, List.drop_succ_cons, List.take_zero, List.take_succ_cons, Nat.zero_add, Nat.add_zero, Nat.reduceAdd, List.cons_append, List.nil_append, List.eraseIdx_cons_zero, List.eraseIdx_cons_succ])
    refine W ?_
    first | (refine LS_gyH rfl (decide_eq_true (by omega)) ?_; intro hg) | (refine LI_cond_tH rfl (decide_eq_true (by omega)) ?_; intro hg)
    refine W ?_
    (first | refine LS_gt rfl ?_ ?_ | refine LS_gf rfl ?_ ?_ | refine LI_cond rfl ?_ ?_) <;> intro hc <;> have hc' := hc <;> try simp only [decide_eq_true_eq, decide_eq_false_iff_not, Bool.not_eq_true', Bool.not_eq_false', Bool.not_eq_true, Bool.not_eq_false, beq_iff_eq, bne_iff_ne, beq_eq_false_iff_ne, bne_eq_false_iff_eq, Int.not_lt, Int.not_le, ge_iff_le, gt_iff_lt, not_and, ne_eq, Decidable.not_not] at hc'
    all_goals (try (dsimp only [st, setL, AV.cells, List.set_cons_zero, List.set_cons_succ, List.drop_zero, List.drop_succ_cons, List.take_zero, List.take_succ_cons, Nat.zero_add, Nat.add_zero, Nat.reduceAdd, List.cons_append, List.nil_append, List.eraseIdx_cons_zero, List.eraseIdx_cons_succ]))
    all_goals (refine W ?_)
    · have e : lastD c = n := by first | exact hc' | simpa using hc
      refine LS_cm (.refl _) (fun h' HL' wf => hE s c w h0 h' M Lr hs hRs HL' hw (by omega)) rfl rfl ?_
      try (dsimp only [st, setL, AV.cells, List.set_cons_zero, List.set_cons_succ, List.drop_zero, List.drop_succ_cons, List.take_zero, List.take_succ_cons, Nat.zero_add, Nat.add_zero, Nat.reduceAdd, List.cons_append, List.nil_append, List.eraseIdx_cons_zero, List.eraseIdx_cons_succ])
      refine W ?_
      rintro _ _ ⟨M1, rfl, hR1, rfl⟩
      try (dsimp only [st, setL, AV.cells, List.set_cons_zero, List.set_cons_succ, List.drop_zero, List.drop_succ_cons, List.take_zero, List.take_succ_cons, Nat.zero_add, Nat.add_zero, Nat.reduceAdd, List.cons_append, List.nil_append, List.eraseIdx_cons_zero, List.eraseIdx_cons_succ])
      refine W ?_
      refine RET fun h' HL => ?_
      try dsimp only [oneA]
      have e2 : foldU step s (allS n 0 c) = step s c := by
        rw [allS, if_pos e, foldU]
        by_cases hb : (step s c).2 = true
        · rw [if_pos hb, ← hb]
        · rw [if_neg hb, foldU]
          have : (step s c).2 = false := by simpa using hb
          rw [← this]
      exact ⟨_, ⟨M1, by rw [e2], by rw [e2]; exact hR1, rfl⟩, HL⟩
    · have e : lastD c ≠ n := by first | exact hc' | simpa using hc
      refine RET fun h' HL => ?_
      try dsimp only [oneA]
      have e2 : foldU step s (allS n 0 c) = (s, false) := by rw [allS, if_neg e, foldU]
      exact ⟨_, ⟨M, by rw [e2], by rw [e2]; exact hRs, rfl⟩, HL⟩
  | k + 1, c, w, s, h0, h, M, Lr, hk, hgc, hl, hs, hRs, HL, hw => by
    have hR := hw h (HL.sub (List.sublist_append_right _ _))
    have hln := hR.len
    have hcl : 0 < c.length := List.length_pos_iff.2 hgc.1
    have hl1 := hgc.last
    obtain ⟨A, hA⟩ : ∃ A : Nat → σ × Bool, A = fun m => foldU step s ((c.take m).flatMap fun x => allS n k (c ++ [lastD c + x])) := ⟨_, rfl⟩
    have hA0 : A 0 = (s, false) := by rw [hA]; simp [foldU]
    have hAs : ∀ (m : Nat) (x : Int), c[m]? = some x → (A m).2 = false → A (m + 1) = foldU step (A m).1 (allS n k (c ++ [lastD c + x])) := by
      intro m x hx hf
      rw [hA] at hf ⊢
      show foldU step s ((c.take (m + 1)).flatMap _) = _
      rw [take_snoc hx, List.flatMap_append, foldU_app, if_neg (by rw [hf]; simp)]
      simp
    have hAall : ∀ m, (A m).2 = true → foldU step s (allS n (k + 1) c) = A m := by
      intro m hm
      rw [hA] at hm ⊢
      have e : allS n (k + 1) c = ((c.take m).flatMap fun x => allS n k (c ++ [lastD c + x])) ++ ((c.drop m).flatMap fun x => allS n k (c ++ [lastD c + x])) := by
        rw [← List.flatMap_append, List.take_append_drop]; rfl
      rw [e, foldU_app, if_pos hm]
    have hAend : A c.length = foldU step s (allS n (k + 1) c) := by
      rw [hA]
      show foldU step s ((c.take c.length).flatMap _) = _
      rw [List.take_length]; rfl
    have hAg : ∀ m, (A m).2 = false → Good (A m).1 := by
      intro m hm
      rw [hA] at hm ⊢
      exact foldU_good hG _ s hs hm
    refine e70 _ _ _ _ fun wf => ?_
    unfold c70
    refine LI_startL HL ?_
    refine W ?_
    refine LS_ix (y := lastD c) (fun h' HL' => hw h' (HL'.sub (List.sublist_append_right _ _))) enI1 (lastD_at hgc) (by omega) rfl rfl fun q1 o1 hrow1 => ?_
    try (dsimp only [st, setL, AV.cells, List.set_cons_zero, List.set_cons_succ, List.drop_zero, List.drop_succ_cons, List.take_zero, List.take_succ_cons, Nat.zero_add, Nat.add_zero, Nat.reduceAdd, List.cons_append, List.nil_append, List.eraseIdx_cons_zero, List.eraseIdx_cons_succ])
    refine W ?_
    first | (refine LS_gtnH rfl (decide_eq_false (by omega)) ?_; intro hg; try (dsimp only [st, setL, AV.cells, List.set_cons_zero, List.set_cons_succ, List.drop_zero, List.drop_succ_cons, List.take_zero, List.take_succ_cons, Nat.zero_add, Nat.add_zero, Nat.reduceAdd, List.cons_append, List.nil_append, List.eraseIdx_cons_zero, List.eraseIdx_cons_succ])) | (refine LS_gfnH rfl (decide_eq_false (by omega)) ?_; intro hg; try (dsimp only [st, setL, AV.cells, List.set_cons_zero, List.set_cons_succ, List.drop_zero, List.drop_succ_cons, List.take_zero, List.take_succ_cons, Nat.zero_add, Nat.add_zero, Nat.reduceAdd, List.cons_append, List.nil_append, List.eraseIdx_cons_zero, List.eraseIdx_cons_succ])) | (refine LI_cond_fH rfl (decide_eq_false (by omega)) ?_; intro hg)
    refine W ?_
    (first | refine LS_gt rfl ?_ ?_ | refine LS_gf rfl ?_ ?_ | refine LI_cond rfl ?_ ?_) <;> intro hc <;> have hc' := hc <;> try simp only [decide_eq_true_eq, decide_eq_false_iff_not, Bool.not_eq_true', Bool.not_eq_false', Bool.not_eq_true, Bool.not_eq_false, beq_iff_eq, bne_iff_ne, beq_eq_false_iff_ne, bne_eq_false_iff_eq, Int.not_lt, Int.not_le, ge_iff_le, gt_iff_lt, not_and, ne_eq, Decidable.not_not] at hc'
    all_goals (try (dsimp only [st, setL, AV.cells, List.set_cons_zero, List.set_cons_succ, List.drop_zero, List.drop_succ_cons, List.take_zero, List.take_succ_cons, Nat.zero_add, Nat.add_zero, Nat.reduceAdd, List.cons_append, List.nil_append, List.eraseIdx_cons_zero, List.eraseIdx_cons_succ]))
    all_goals (refine W ?_)
    · refine LS_v (OpV_shl rfl rfl (by omega)) ?_
      try (dsimp only [st, setL, AV.cells, List.set_cons_zero, List.set_cons_succ, List.drop_zero, List.drop_succ_cons, List.take_zero, List.take_succ_cons, Nat.zero_add, Nat.add_zero, Nat.reduceAdd, List.cons_append, List.nil_append, List.eraseIdx_cons_zero, List.eraseIdx_cons_succ])
      refine W ?_
      rw [shl_small' (m := lastD c) (z := (len : Int) - c.length + 1) (k := k + 1) (by omega) (by omega) (by omega) (by omega)]
      refine W ?_
      (first | refine LS_gt rfl ?_ ?_ | refine LS_gf rfl ?_ ?_ | refine LI_cond rfl ?_ ?_) <;> intro hc <;> have hc' := hc <;> try simp only [decide_eq_true_eq, decide_eq_false_iff_not, Bool.not_eq_true', Bool.not_eq_false', Bool.not_eq_true, Bool.not_eq_false, beq_iff_eq, bne_iff_ne, beq_eq_false_iff_ne, bne_eq_false_iff_eq, Int.not_lt, Int.not_le, ge_iff_le, gt_iff_lt, not_and, ne_eq, Decidable.not_not] at hc'
      all_goals (try (dsimp only [st, setL, AV.cells, List.set_cons_zero, List.set_cons_succ, List.drop_zero, List.drop_succ_cons, List.take_zero, List.take_succ_cons, Nat.zero_add, Nat.add_zero, Nat.reduceAdd, List.cons_append, List.nil_append, List.eraseIdx_cons_zero, List.eraseIdx_cons_succ]))
      all_goals (refine W ?_)
      · have e2 : foldU step s (allS n (k + 1) c) = (s, false) := by rw [allS_lt (k + 1) c hgc hc', foldU]
        refine RET fun h' HL => ?_
        try dsimp only [oneA]
        exact ⟨_, ⟨M, by rw [e2], by rw [e2]; exact hRs, rfl⟩, HL⟩
      · refine LIL_ind (fun j a L => ∃ (M' : List It) (i : Int), (∃ r : Nat → AV, a = [.i .i64 n, .i .i64 (len : Nat), w, .f g caps, r 4, r 5, r 6, r 7, r 8, .i .i64 (lastD c), r 10, r 11, r 12, r 13, r 14, r 15, r 16, r 17, r 18, r 19, r 20, r 21, r 22, r 23, r 24, r 25, r 26, r 27, r 28, r 29, r 30, r 31, r 32, r 33, r 34, r 35, r 36, r 37, r 38, r 39, r 40, r 41, r 42, r 43, r 44, r 45, w, .i .i64 c.length, .i .i64 i, r 49, r 50, r 51, r 52, r 53, r 54, r 55, r 56, r 57, r 58, r 59, r 60, r 61, r 62, r 63]) ∧ L = M' ++ Lr ∧ 0 ≤ i ∧ i + j = c.length ∧ (A i.toNat).2 = false ∧ R (A i.toNat).1 M')
          c.length ⟨M, 0, exJ rfl, rfl, by omega, by omega, by rw [show (0 : Int).toNat = 0 from rfl, hA0], by rw [show (0 : Int).toNat = 0 from rfl, hA0]; exact hRs⟩ ?_
        rintro j a _ ⟨M', i, ⟨r, rfl⟩, rfl, h0', hj, hAf, hRi⟩ IH
        refine W ?_
        (first | refine LS_gt rfl ?_ ?_ | refine LS_gf rfl ?_ ?_ | refine LI_cond rfl ?_ ?_) <;> intro hc <;> have hc' := hc <;> try simp only [decide_eq_true_eq, decide_eq_false_iff_not, Bool.not_eq_true', Bool.not_eq_false', Bool.not_eq_true, Bool.not_eq_false, beq_iff_eq, bne_iff_ne, beq_eq_false_iff_ne, bne_eq_false_iff_eq, Int.not_lt, Int.not_le, ge_iff_le, gt_iff_lt, not_and, ne_eq, Decidable.not_not] at hc'
        all_goals (try (dsimp only [st, setL, AV.cells, List.set_cons_zero, List.set_cons_succ, List.drop_zero, List.drop_succ_cons, List.take_zero, List.take_succ_cons, Nat.zero_add, Nat.add_zero, Nat.reduceAdd, List.cons_append, List.nil_append, List.eraseIdx_cons_zero, List.eraseIdx_cons_succ]))
        all_goals (refine W ?_)
        · obtain ⟨x, hx, hxm, _⟩ := drop_at (l := c) h0' hc'
          have hxb := hgc.2 x hxm
          refine LS_ix (fun h' HL' => hw h' (HL'.sub (List.sublist_append_right _ _))) enI1 hx h0' rfl rfl fun q2 o2 hrow2 => ?_
          try (dsimp only [st, setL, AV.cells, List.set_cons_zero, List.set_cons_succ, List.drop_zero, List.drop_succ_cons, List.take_zero, List.take_succ_cons, Nat.zero_add, Nat.add_zero, Nat.reduceAdd, List.cons_append, List.nil_append, List.eraseIdx_cons_zero, List.eraseIdx_cons_succ])
          refine W ?_
          refine LS_c0 (fun h' HL' wf => Clip_ac c w h' (hw h' (HL'.sub (List.sublist_append_right _ _))) (by omega)) rfl rfl ?_
          try (dsimp only [st, setL, AV.cells, List.set_cons_zero, List.set_cons_succ, List.drop_zero, List.drop_succ_cons, List.take_zero, List.take_succ_cons, Nat.zero_add, Nat.add_zero, Nat.reduceAdd, List.cons_append, List.nil_append, List.eraseIdx_cons_zero, List.eraseIdx_cons_succ])
          refine W ?_
          refine LS_lt [lastD c + x] rfl rfl (by decide) rfl rfl rfl rfl enI1 rfl rfl fun w2 lw2 sw2 => ?_
          try (dsimp only [st, setL, AV.cells, List.set_cons_zero, List.set_cons_succ, List.drop_zero, List.drop_succ_cons, List.take_zero, List.take_succ_cons, Nat.zero_add, Nat.add_zero, Nat.reduceAdd, List.cons_append, List.nil_append, List.eraseIdx_cons_zero, List.eraseIdx_cons_succ])
          refine W ?_
          refine LS_o (LO_apc (clipA_c hR) (fun h' HL' => clipA_rd (hw h' (HL'.sub (.cons _ (List.sublist_append_right _ _))))) (fun h' HL' => HL'.rdI 0 rfl enI1 (by decide)) enI1 (by decide) (by simp) (by simp; omega) (by simp; omega) rfl rfl rfl fun w3 lw3 sw3 => ?_)
          try (dsimp only [st, setL, AV.cells, List.set_cons_zero, List.set_cons_succ, List.drop_zero, List.drop_succ_cons, List.take_zero, List.take_succ_cons, Nat.zero_add, Nat.add_zero, Nat.reduceAdd, List.cons_append, List.nil_append, List.eraseIdx_cons_zero, List.eraseIdx_cons_succ])
          refine W ?_
          refine LS_cm (perm_in2 M' Lr _ _) (fun h' HL' wf => stars_ac n hn len hlen g caps step R Good hG hE k (c ++ [lastD c + x]) w3 (A i.toNat).1 h0 h' M' (.sl w3 1 ((c ++ [lastD c + x]).flatMap enI) :: .sl w2 1 ([lastD c + x].flatMap enI) :: Lr) (by simp; omega) (goodC_snoc hgc hxm) (by rw [lastD_snoc]; omega) (hAg _ hAf) hRi HL' (fun h2 HL2 => HL2.rdI 0 rfl enI1 (by decide))) rfl rfl ?_
          try (dsimp only [st, setL, AV.cells, List.set_cons_zero, List.set_cons_succ, List.drop_zero, List.drop_succ_cons, List.take_zero, List.take_succ_cons, Nat.zero_add, Nat.add_zero, Nat.reduceAdd, List.cons_append, List.nil_append, List.eraseIdx_cons_zero, List.eraseIdx_cons_succ])
          refine W ?_
          rintro _ _ ⟨M1, rfl, hR1, rfl⟩
          try (dsimp only [st, setL, AV.cells, List.set_cons_zero, List.set_cons_succ, List.drop_zero, List.drop_succ_cons, List.take_zero, List.take_succ_cons, Nat.zero_add, Nat.add_zero, Nat.reduceAdd, List.cons_append, List.nil_append, List.eraseIdx_cons_zero, List.eraseIdx_cons_succ])
          rw [← hAs _ _ hx hAf] at hR1 ⊢
          refine W ?_
          (first | refine LS_gt rfl ?_ ?_ | refine LS_gf rfl ?_ ?_ | refine LI_cond rfl ?_ ?_) <;> intro hc <;> have hc' := hc <;> try simp only [decide_eq_true_eq, decide_eq_false_iff_not, Bool.not_eq_true', Bool.not_eq_false', Bool.not_eq_true, Bool.not_eq_false, beq_iff_eq, bne_iff_ne, beq_eq_false_iff_ne, bne_eq_false_iff_eq, Int.not_lt, Int.not_le, ge_iff_le, gt_iff_lt, not_and, ne_eq, Decidable.not_not] at hc'
          all_goals (try (dsimp only [st, setL, AV.cells, List.set_cons_zero, List.set_cons_succ, List.drop_zero, List.drop_succ_cons, List.take_zero, List.take_succ_cons, Nat.zero_add, Nat.add_zero, Nat.reduceAdd, List.cons_append, List.nil_append, List.eraseIdx_cons_zero, List.eraseIdx_cons_succ]))
          all_goals (refine W ?_)
          · have e3 := hAall _ hc
            refine RET fun h' HL => ?_
            try dsimp only [oneA]
            exact ⟨_, ⟨M1, by rw [e3, hc], by rw [e3]; exact hR1, rfl⟩, HL.sub (List.Sublist.append (List.Sublist.refl _) (.cons _ (.cons _ (.refl _))))⟩
          · refine LIL_sub (L' := M1 ++ Lr) (List.Sublist.append (List.Sublist.refl _) (.cons _ (.cons _ (.refl _)))) ?_
            refine IH (j - 1) _ _ (by omega) ⟨M1, i + 1, exJ rfl, rfl, by omega, by omega, by rw [toNat_succ h0']; exact hc, by rw [toNat_succ h0']; exact hR1⟩
        · have ei : i.toNat = c.length := by omega
          rw [ei] at hAf hRi
          rw [hAend] at hAf hRi
          refine RET fun h' HL => ?_
          try dsimp only [oneA]
          exact ⟨_, ⟨M', by rw [hAf], hRi, rfl⟩, HL⟩
    · have e2 : foldU step s (allS n (k + 1) c) = (s, false) := by rw [allS_ge k c hgc (by omega), foldU]
      refine RET fun h' HL => ?_
      try dsimp only [oneA]
      exact ⟨_, ⟨M, by rw [e2], by rw [e2]; exact hRs, rfl⟩, HL⟩

/-! ### First and shortest star chains -/
theorem lengthOk_ac (n : Int) (h : AH) : AC Try.prog 60 [.i .i64 n] h (fun v h' => v = .b (decide (0 ≤ n ∧ n ≤ 8)) ∧ h = h') := by
  refine e60 _ fun wf => ?_
  unfold c60
  repeat (first | refine AI_seqk fun K hK => ?_ | refine AI_reg ?_ | ((first | refine wmv rfl ?_ | refine wag rfl ?_ | refine war _ rfl rfl rfl (by omega) (by omega) ?_ | refine wbn rfl rfl rfl ?_ | refine wnt rfl ?_ | refine wex rfl rfl ?_ | refine wpt rfl (by first | assumption | with_reducible rfl) rfl ?_ | refine wpf rfl (by first | assumption | with_reducible rfl) rfl ?_ | refine wpb rfl rfl rfl ?_ | refine wmf rfl ?_ | refine wnc rfl ?_ | refine wbq Try.underlying4 rfl rfl _ (.inr ⟨rfl, rfl⟩) ?_ | refine wbq Try.underlying4 rfl rfl _ (.inl ⟨rfl, rfl⟩) ?_); try dsimp only [st, List.set_cons_zero, List.set_cons_succ]) | ((first | refine AS_nil ?_ | refine AI_skip ?_ | refine AI_exit ?_); try simp only [AThen, ABlk, reduceIte, reduceCtorEq]) | ((first | refine hK _ _ ?_ | ((first | clear hK K | clear IH hK K); refine hK _ _ ?_) | ((first | clear hK K | clear IH hK K); (first | clear hK K | clear IH hK K); refine hK _ _ ?_) | ((first | clear hK K | clear IH hK K); (first | clear hK K | clear IH hK K); (first | clear hK K | clear IH hK K); refine hK _ _ ?_)); try (first | clear hK K | clear IH hK K)) | refine AI_cond_t rfl (by first | assumption | with_reducible rfl) ?_ | refine AI_cond_f rfl (by first | assumption | with_reducible rfl) ?_ | refine AS_gy rfl (by first | assumption | with_reducible rfl) ?_ | refine AS_gtn rfl (by first | assumption | with_reducible rfl) ?_ | refine AS_gfn rfl (by first | assumption | with_reducible rfl) ?_ | refine AI_block (AI_loop ?_) | refine AI_block ?_ | refine AI_ret ⟨_, rfl, ?_⟩)
  refine AS_op (OpR_call rfl rfl (in_ac _ _ _ _) ?_)
  rintro _ _ wf1 ⟨rfl, rfl⟩
  try (dsimp only [st, setL, AV.cells, List.set_cons_zero, List.set_cons_succ, List.drop_zero, List.drop_succ_cons, List.take_zero, List.take_succ_cons, Nat.zero_add, Nat.add_zero, Nat.reduceAdd, List.cons_append, List.nil_append, List.eraseIdx_cons_zero, List.eraseIdx_cons_succ])
  repeat (first | refine AI_seqk fun K hK => ?_ | refine AI_reg ?_ | ((first | refine wmv rfl ?_ | refine wag rfl ?_ | refine war _ rfl rfl rfl (by omega) (by omega) ?_ | refine wbn rfl rfl rfl ?_ | refine wnt rfl ?_ | refine wex rfl rfl ?_ | refine wpt rfl (by first | assumption | with_reducible rfl) rfl ?_ | refine wpf rfl (by first | assumption | with_reducible rfl) rfl ?_ | refine wpb rfl rfl rfl ?_ | refine wmf rfl ?_ | refine wnc rfl ?_ | refine wbq Try.underlying4 rfl rfl _ (.inr ⟨rfl, rfl⟩) ?_ | refine wbq Try.underlying4 rfl rfl _ (.inl ⟨rfl, rfl⟩) ?_); try dsimp only [st, List.set_cons_zero, List.set_cons_succ]) | ((first | refine AS_nil ?_ | refine AI_skip ?_ | refine AI_exit ?_); try simp only [AThen, ABlk, reduceIte, reduceCtorEq]) | ((first | refine hK _ _ ?_ | ((first | clear hK K | clear IH hK K); refine hK _ _ ?_) | ((first | clear hK K | clear IH hK K); (first | clear hK K | clear IH hK K); refine hK _ _ ?_) | ((first | clear hK K | clear IH hK K); (first | clear hK K | clear IH hK K); (first | clear hK K | clear IH hK K); refine hK _ _ ?_)); try (first | clear hK K | clear IH hK K)) | refine AI_cond_t rfl (by first | assumption | with_reducible rfl) ?_ | refine AI_cond_f rfl (by first | assumption | with_reducible rfl) ?_ | refine AS_gy rfl (by first | assumption | with_reducible rfl) ?_ | refine AS_gtn rfl (by first | assumption | with_reducible rfl) ?_ | refine AS_gfn rfl (by first | assumption | with_reducible rfl) ?_ | refine AI_block (AI_loop ?_) | refine AI_block ?_ | refine AI_ret ⟨_, rfl, ?_⟩)
  exact ⟨rfl, rfl⟩

def TupS (l : List (List Int)) (ok : Bool) (r : AV) (M : List It) : Prop := ∃ w us, r = .tup [w, .b ok] ∧ us.length = l.length ∧ lenA w = some us.length ∧ w.sc = true ∧ M = ssI w us l

theorem TupS.none {h0 h : AH} {L : List It} (H : Loq h0 h L) : ∃ M, TupS [] false (.tup [.ns, .b false]) M ∧ Loq h0 h M := ⟨_, ⟨.ns, [], rfl, rfl, rfl, rfl, rfl⟩, loq_ns (H.sub (List.nil_sublist _)) 1⟩

def cOkS (n len : Int) : Bool := decide (1 ≤ n ∧ n ≤ 100) && decide (0 ≤ len ∧ len ≤ 8)

theorem growB_8 : ∀ k : Nat, k ≤ 8 → growB k 1 ≤ 1000000 := by decide +kernel

theorem rep_getD (m i : Nat) : (List.replicate m (0 : Int)).getD i 0 = 0 := by
  simp only [List.getD, List.getElem?_replicate]
  split <;> rfl

/-! ### Counting -/
theorem foldU_wrap : ∀ (l : List (List Int)) (k : Int), 0 ≤ k → k + l.length ≤ 4611686018427387904 → foldU (fun (s : Int) _ => (IntKind.i64.wrap (s + 1), false)) k l = (k + l.length, false)
  | [], k, _, _ => by simp [foldU]
  | c :: cs, k, h0, h => by
    rw [foldU]
    simp only [Bool.false_eq_true, if_false]
    rw [List.length_cons] at h ⊢
    rw [IntWalk.i64_in (k + 1) ⟨by omega, by omega⟩, foldU_wrap cs (k + 1) (by omega) (by omega)]
    congr 1
    omega

theorem allS_bd {n : Int} {k : Nat} (hk : k ≤ 8) : ((allS n k [1]).length : Int) ≤ 1000000 := by
  have h1 := liveQ_cnt (n := n) (m := k) k [1] (List.replicate (k + 1) 0) goodC_one (by simp) (by simp)
  have h2 := liveQ_bd (n := n) k k [1] (List.replicate (k + 1) 0)
  have h3 := growB_8 k hk
  rw [rep_getD] at h1 h2
  rw [show ([1] : List Int).length = 1 from rfl] at h2
  omega

theorem count1_ac (b : Nat) (s : Int) (w : AV) (h0 h : AH) (Lr : List It) (HL : Loq h0 h (.pt b [.i .i64 s] :: Lr)) :
    AC Try.prog 79 [w, .p b 0] h (fun r h' => ∃ N, (r = .b false ∧ N = .pt b [.i .i64 (IntKind.i64.wrap (s + 1))] :: Lr) ∧ Loq h0 h' N) := by
  refine e79 _ _ fun wf => ?_
  unfold c79
  refine LI_startL HL ?_
  refine W ?_
  refine LS_arw rfl rfl rfl ?_
  try (dsimp only [st, setL, AV.cells, List.set_cons_zero, List.set_cons_succ, List.drop_zero, List.drop_succ_cons, List.take_zero, List.take_succ_cons, Nat.zero_add, Nat.add_zero, Nat.reduceAdd, List.cons_append, List.nil_append, List.eraseIdx_cons_zero, List.eraseIdx_cons_succ])
  refine W ?_
  refine RET fun h' HL => ?_
  try dsimp only [oneA]
  exact ⟨_, ⟨rfl, rfl⟩, HL⟩

theorem count_ac (n len : Int) (h : AH) : AC Try.prog 44 [.i .i64 n, .i .i64 len] h (fun r h' => r = .tup [.i .i64 (if cOkS n len = true then ((allS n len.toNat [1]).length : Int) else 0), .b (cOkS n len)] ∧ h.le h') := by
  by_cases hn : 1 ≤ n ∧ n ≤ 100
  · by_cases hk : 0 ≤ len ∧ len ≤ 8
    · have e : cOkS n len = true := by rw [cOkS, decide_eq_true hn, decide_eq_true hk]; rfl
      have hbd := allS_bd (n := n) (k := len.toNat) (by omega)
      rw [e, if_pos rfl]
      refine e44 _ _ fun wf => ?_
      unfold c44
      refine LI_start wf ?_
      refine W ?_
      refine LS_c0' (fun h' HL wf => isShort_ac n h') rfl rfl ?_
      try (dsimp only [st, setL, AV.cells, List.set_cons_zero, List.set_cons_succ, List.drop_zero, List.drop_succ_cons, List.take_zero, List.take_succ_cons, Nat.zero_add, Nat.add_zero, Nat.reduceAdd, List.cons_append, List.nil_append, List.eraseIdx_cons_zero, List.eraseIdx_cons_succ])
      refine W ?_
      first | (refine LS_gyH rfl (by simp [hn]) ?_; intro hg) | (refine LI_cond_tH rfl (by simp [hn]) ?_; intro hg)
      refine W ?_
      refine LS_c0' (fun h' HL wf => lengthOk_ac len h') rfl rfl ?_
      try (dsimp only [st, setL, AV.cells, List.set_cons_zero, List.set_cons_succ, List.drop_zero, List.drop_succ_cons, List.take_zero, List.take_succ_cons, Nat.zero_add, Nat.add_zero, Nat.reduceAdd, List.cons_append, List.nil_append, List.eraseIdx_cons_zero, List.eraseIdx_cons_succ])
      refine W ?_
      first | (refine LS_gtnH rfl (by simp [hn, hk]) ?_; intro hg; try (dsimp only [st, setL, AV.cells, List.set_cons_zero, List.set_cons_succ, List.drop_zero, List.drop_succ_cons, List.take_zero, List.take_succ_cons, Nat.zero_add, Nat.add_zero, Nat.reduceAdd, List.cons_append, List.nil_append, List.eraseIdx_cons_zero, List.eraseIdx_cons_succ])) | (refine LS_gfnH rfl (by simp [hn, hk]) ?_; intro hg; try (dsimp only [st, setL, AV.cells, List.set_cons_zero, List.set_cons_succ, List.drop_zero, List.drop_succ_cons, List.take_zero, List.take_succ_cons, Nat.zero_add, Nat.add_zero, Nat.reduceAdd, List.cons_append, List.nil_append, List.eraseIdx_cons_zero, List.eraseIdx_cons_succ])) | (refine LI_cond_fH rfl (by simp [hn, hk]) ?_; intro hg)
      refine W ?_
      refine LS_al rfl fun b3 => ?_
      try (dsimp only [st, setL, AV.cells, List.set_cons_zero, List.set_cons_succ, List.drop_zero, List.drop_succ_cons, List.take_zero, List.take_succ_cons, Nat.zero_add, Nat.add_zero, Nat.reduceAdd, List.cons_append, List.nil_append, List.eraseIdx_cons_zero, List.eraseIdx_cons_succ])
      refine W ?_
      refine LS_lt [1] rfl rfl (by decide) rfl rfl rfl rfl enI1 rfl rfl fun w2 lw2 sw2 => ?_
      try (dsimp only [st, setL, AV.cells, List.set_cons_zero, List.set_cons_succ, List.drop_zero, List.drop_succ_cons, List.take_zero, List.take_succ_cons, Nat.zero_add, Nat.add_zero, Nat.reduceAdd, List.cons_append, List.nil_append, List.eraseIdx_cons_zero, List.eraseIdx_cons_succ])
      refine W ?_
      refine LS_cm (.swap _ _ _) (fun h' HL wf => by have H := stars_ac n hn len.toNat (by omega) 79 [.p b3 0] (fun (s : Int) _ => (IntKind.i64.wrap (s + 1), false)) (fun s M => M = [.pt b3 [.i .i64 s]]) (fun _ => True) (fun _ _ _ _ => trivial) (fun s c w h0 h M Lr _ hRs HL hw hc => by subst hRs; exact (count1_ac b3 s w h0 h Lr HL).mono fun r h' ⟨N, ⟨e1, e2⟩, G⟩ => ⟨N, ⟨_, e1, rfl, e2⟩, G⟩) len.toNat [1] w2 0 h h' [.pt b3 [.i .i64 0]] [.sl w2 1 ([1].flatMap enI)] (by simp; omega) goodC_one (by simp [lastD]) trivial rfl HL (fun h2 HL2 => HL2.rdI 0 rfl enI1 (by decide)); rw [show ((len.toNat : Nat) : Int) = len by omega] at H; simp only [foldU_wrap (allS n len.toNat [1]) 0 (by omega) (by omega)] at H; exact H) rfl rfl ?_
      try (dsimp only [st, setL, AV.cells, List.set_cons_zero, List.set_cons_succ, List.drop_zero, List.drop_succ_cons, List.take_zero, List.take_succ_cons, Nat.zero_add, Nat.add_zero, Nat.reduceAdd, List.cons_append, List.nil_append, List.eraseIdx_cons_zero, List.eraseIdx_cons_succ])
      refine W ?_
      rintro _ _ ⟨_, rfl, rfl, rfl⟩
      try (dsimp only [st, setL, AV.cells, List.set_cons_zero, List.set_cons_succ, List.drop_zero, List.drop_succ_cons, List.take_zero, List.take_succ_cons, Nat.zero_add, Nat.add_zero, Nat.reduceAdd, List.cons_append, List.nil_append, List.eraseIdx_cons_zero, List.eraseIdx_cons_succ])
      refine W ?_
      refine RET fun h' HL => ?_
      try dsimp only [oneA]
      exact ⟨by rw [Int.zero_add], HL.le⟩
    · have e : cOkS n len = false := by rw [cOkS, decide_eq_false hk, Bool.and_false]
      rw [e, if_neg (by simp)]
      refine e44 _ _ fun wf => ?_
      unfold c44
      refine LI_start wf ?_
      refine W ?_
      refine LS_c0' (fun h' HL wf => isShort_ac n h') rfl rfl ?_
      try (dsimp only [st, setL, AV.cells, List.set_cons_zero, List.set_cons_succ, List.drop_zero, List.drop_succ_cons, List.take_zero, List.take_succ_cons, Nat.zero_add, Nat.add_zero, Nat.reduceAdd, List.cons_append, List.nil_append, List.eraseIdx_cons_zero, List.eraseIdx_cons_succ])
      refine W ?_
      first | (refine LS_gyH rfl (by simp [hn]) ?_; intro hg) | (refine LI_cond_tH rfl (by simp [hn]) ?_; intro hg)
      refine W ?_
      refine LS_c0' (fun h' HL wf => lengthOk_ac len h') rfl rfl ?_
      try (dsimp only [st, setL, AV.cells, List.set_cons_zero, List.set_cons_succ, List.drop_zero, List.drop_succ_cons, List.take_zero, List.take_succ_cons, Nat.zero_add, Nat.add_zero, Nat.reduceAdd, List.cons_append, List.nil_append, List.eraseIdx_cons_zero, List.eraseIdx_cons_succ])
      refine W ?_
      first | (refine LS_gyH rfl (by simp [hn, hk]) ?_; intro hg) | (refine LI_cond_tH rfl (by simp [hn, hk]) ?_; intro hg)
      refine W ?_
      refine RET fun h' HL => ?_
      try dsimp only [oneA]
      exact ⟨rfl, HL.le⟩
  · have e : cOkS n len = false := by rw [cOkS, decide_eq_false hn, Bool.false_and]
    rw [e, if_neg (by simp)]
    refine e44 _ _ fun wf => ?_
    unfold c44
    refine LI_start wf ?_
    refine W ?_
    refine LS_c0' (fun h' HL wf => isShort_ac n h') rfl rfl ?_
    try (dsimp only [st, setL, AV.cells, List.set_cons_zero, List.set_cons_succ, List.drop_zero, List.drop_succ_cons, List.take_zero, List.take_succ_cons, Nat.zero_add, Nat.add_zero, Nat.reduceAdd, List.cons_append, List.nil_append, List.eraseIdx_cons_zero, List.eraseIdx_cons_succ])
    refine W ?_
    first | (refine LS_gtnH rfl (by simp [hn]) ?_; intro hg; try (dsimp only [st, setL, AV.cells, List.set_cons_zero, List.set_cons_succ, List.drop_zero, List.drop_succ_cons, List.take_zero, List.take_succ_cons, Nat.zero_add, Nat.add_zero, Nat.reduceAdd, List.cons_append, List.nil_append, List.eraseIdx_cons_zero, List.eraseIdx_cons_succ])) | (refine LS_gfnH rfl (by simp [hn]) ?_; intro hg; try (dsimp only [st, setL, AV.cells, List.set_cons_zero, List.set_cons_succ, List.drop_zero, List.drop_succ_cons, List.take_zero, List.take_succ_cons, Nat.zero_add, Nat.add_zero, Nat.reduceAdd, List.cons_append, List.nil_append, List.eraseIdx_cons_zero, List.eraseIdx_cons_succ])) | (refine LI_cond_fH rfl (by simp [hn]) ?_; intro hg)
    refine W ?_
    refine RET fun h' HL => ?_
    try dsimp only [oneA]
    exact ⟨rfl, HL.le⟩

/-! ### Lists drawn; the law of checks -/
theorem rHas_ac (l : List Int) (v : AV) (x : Int) (h : AH) (hR : Rd h v l) (hl : l.length ≤ 4611686018427387904) : AC Try.prog 35 [v, .i .i64 x] h (fun r h' => r = .b (l.any fun y => y == x) ∧ h.le h') := by
  refine e35 _ _ fun wf => ?_
  unfold c35
  refine LI_start wf ?_
  refine W ?_
  refine LIL_ind (fun n a L => ∃ (i : Int), (∃ r : Nat → AV, a = [r 0, .i .i64 x, r 2, r 3, r 4, r 5, r 6, v, .i .i64 l.length, .i .i64 i, r 10, r 11, r 12, r 13, r 14, r 15, r 16]) ∧ L = [] ∧ 0 ≤ i ∧ i + n = l.length ∧ (l.any fun y => y == x) = ((l.drop i.toNat).any fun y => y == x))
    l.length ⟨0, exJ rfl, rfl, by omega, by omega, rfl⟩ ?_
  rintro n a L ⟨i, ⟨r, rfl⟩, rfl, h0, hn, heq⟩ IH
  refine W ?_
  (first | refine LS_gt rfl ?_ ?_ | refine LS_gf rfl ?_ ?_ | refine LI_cond rfl ?_ ?_) <;> intro hc <;> have hc' := hc <;> try simp only [decide_eq_true_eq, decide_eq_false_iff_not, Bool.not_eq_true', Bool.not_eq_false', Bool.not_eq_true, Bool.not_eq_false, beq_iff_eq, bne_iff_ne, beq_eq_false_iff_ne, bne_eq_false_iff_eq, Int.not_lt, Int.not_le, ge_iff_le, gt_iff_lt, not_and, ne_eq, Decidable.not_not] at hc'
  all_goals (try (dsimp only [st, setL, AV.cells, List.set_cons_zero, List.set_cons_succ, List.drop_zero, List.drop_succ_cons, List.take_zero, List.take_succ_cons, Nat.zero_add, Nat.add_zero, Nat.reduceAdd, List.cons_append, List.nil_append, List.eraseIdx_cons_zero, List.eraseIdx_cons_succ]))
  all_goals (refine W ?_)
  · obtain ⟨y, hy, hym, hd⟩ := drop_at h0 hc'
    rw [hd, List.any_cons] at heq
    refine LS_ix (fun h' HL => hR.le HL.le) enI1 hy h0 rfl rfl fun b o hrow => ?_
    try (dsimp only [st, setL, AV.cells, List.set_cons_zero, List.set_cons_succ, List.drop_zero, List.drop_succ_cons, List.take_zero, List.take_succ_cons, Nat.zero_add, Nat.add_zero, Nat.reduceAdd, List.cons_append, List.nil_append, List.eraseIdx_cons_zero, List.eraseIdx_cons_succ])
    refine W ?_
    (first | refine LS_gt rfl ?_ ?_ | refine LS_gf rfl ?_ ?_ | refine LI_cond rfl ?_ ?_) <;> intro hc <;> have hc' := hc <;> try simp only [decide_eq_true_eq, decide_eq_false_iff_not, Bool.not_eq_true', Bool.not_eq_false', Bool.not_eq_true, Bool.not_eq_false, beq_iff_eq, bne_iff_ne, beq_eq_false_iff_ne, bne_eq_false_iff_eq, Int.not_lt, Int.not_le, ge_iff_le, gt_iff_lt, not_and, ne_eq, Decidable.not_not] at hc'
    all_goals (try (dsimp only [st, setL, AV.cells, List.set_cons_zero, List.set_cons_succ, List.drop_zero, List.drop_succ_cons, List.take_zero, List.take_succ_cons, Nat.zero_add, Nat.add_zero, Nat.reduceAdd, List.cons_append, List.nil_append, List.eraseIdx_cons_zero, List.eraseIdx_cons_succ]))
    all_goals (refine W ?_)
    · rw [heq, hc]
      refine RET fun h' HL => ?_
      try dsimp only [oneA]
      exact ⟨rfl, HL.le⟩
    · refine IH (n - 1) _ _ (by omega) ⟨i + 1, exJ rfl, rfl, by omega, by omega, ?_⟩
      rw [heq, hc, Bool.false_or, toNat_succ h0]
  · rw [heq, List.drop_eq_nil_of_le (by omega)]
    refine RET fun h' HL => ?_
    try dsimp only [oneA]
    exact ⟨rfl, HL.le⟩

def chB (lo m : Int) (c : List Int) : Prop := ∀ x ∈ c, lo ≤ x ∧ x ≤ m

theorem chB.mono {lo m lo' m' : Int} {c : List Int} (h : chB lo m c) (h0 : lo' ≤ lo) (h1 : m ≤ m') : chB lo' m' c := fun x hx => by have := h x hx; omega

theorem chB.set {lo m : Int} {c : List Int} {z : Int} (h : chB lo m c) (i : Nat) (h0 : lo ≤ z) (h1 : z ≤ m) : chB lo m (c.set i z) := fun x hx => by
  rcases List.mem_or_eq_of_mem_set hx with hx | rfl
  · exact h x hx
  · exact ⟨h0, h1⟩

structure TS (ws0 : List (Int × List Int)) (s : List Int × List (Int × List Int)) (B : Nat) : Prop where
  nl : s.1.length ≤ B
  nb : ∀ n ∈ s.1, 0 ≤ n ∧ n ≤ 256
  pre : ∃ t, s.2 = ws0 ++ t
  wb : ∀ p ∈ s.2, 1 ≤ p.2.length ∧ p.2.length ≤ 14 ∧ ∀ x ∈ p.2, 0 ≤ x ∧ x ≤ 256

theorem TS.mono {ws0 : List (Int × List Int)} {s : List Int × List (Int × List Int)} {B B' : Nat} (H : TS ws0 s B) (h : B ≤ B') : TS ws0 s B' := ⟨Nat.le_trans H.nl h, H.nb, H.pre, H.wb⟩

/-! ### The power tree: the reference's walk -/
theorem putNL : ∀ (l : List Int) (n : Int), putN n l = putL l n
  | [], n => rfl
  | x :: l, n => by rw [putN, putL, putNL l n]

theorem l1PutN_ac (l : List Int) (n : Int) (v : AV) (h : AH) (hR : Rd h v l) (hl : l.length ≤ 1048576) (hnm : n ∉ l) :
    AC Try.prog 91 [v, .i .i64 n] h (fun r h' => AL.Own h 1 enI h' r (putL l n)) := by
  have hRl := hR.len
  refine e91 _ _ fun wf => ?_
  unfold c91
  refine LI_start wf ?_
  refine W ?_
  refine LIL_ind (fun m a L => ∃ (k : Int), (∃ r : Nat → AV, a = [v, .i .i64 n, r 2, r 3, r 4, .i .i64 k, r 6, r 7, r 8, r 9, r 10, r 11, r 12, r 13, r 14, r 15, r 16, r 17, r 18, r 19, r 20, r 21, r 22, r 23, r 24, r 25, r 26, r 27, r 28, r 29, r 30, r 31, r 32, r 33, r 34, r 35, r 36, r 37, r 38, r 39, r 40, r 41, r 42, r 43, r 44, r 45, r 46, r 47]) ∧ L = [] ∧ 0 ≤ k ∧ k + m = l.length ∧ (∀ x ∈ l.take k.toNat, x < n))
    l.length ⟨0, exJ rfl, rfl, by omega, by omega, by simp⟩ ?_
  rintro m a L ⟨k, ⟨r, rfl⟩, rfl, h0', hm, hlt⟩ IH
  have hput := putL_at k.toNat l n hlt
  have htl : (l.take k.toNat).length = k.toNat := by rw [List.length_take]; omega
  have hdl : (l.drop k.toNat).length = l.length - k.toNat := List.length_drop
  refine W ?_
  (first | refine LS_gt rfl ?_ ?_ | refine LS_gf rfl ?_ ?_ | refine LI_cond rfl ?_ ?_) <;> intro hc <;> have hc' := hc <;> try simp only [decide_eq_true_eq, decide_eq_false_iff_not, Bool.not_eq_true', Bool.not_eq_false', Bool.not_eq_true, Bool.not_eq_false, beq_iff_eq, bne_iff_ne, beq_eq_false_iff_ne, bne_eq_false_iff_eq, Int.not_lt, Int.not_le, ge_iff_le, gt_iff_lt, not_and, ne_eq, Decidable.not_not] at hc'
  all_goals (try (dsimp only [st, setL, AV.cells, List.set_cons_zero, List.set_cons_succ, List.drop_zero, List.drop_succ_cons, List.take_zero, List.take_succ_cons, Nat.zero_add, Nat.add_zero, Nat.reduceAdd, List.cons_append, List.nil_append, List.eraseIdx_cons_zero, List.eraseIdx_cons_succ]))
  all_goals (refine W ?_)
  · obtain ⟨y, hy, hym, hd⟩ := drop_at (l := l) h0' hc'
    refine LS_ix (fun h' HL => hR.le HL.le) enI1 hy h0' rfl rfl fun q o hrow => ?_
    try (dsimp only [st, setL, AV.cells, List.set_cons_zero, List.set_cons_succ, List.drop_zero, List.drop_succ_cons, List.take_zero, List.take_succ_cons, Nat.zero_add, Nat.add_zero, Nat.reduceAdd, List.cons_append, List.nil_append, List.eraseIdx_cons_zero, List.eraseIdx_cons_succ])
    refine W ?_
    (first | refine LS_gt rfl ?_ ?_ | refine LS_gf rfl ?_ ?_ | refine LI_cond rfl ?_ ?_) <;> intro hc <;> have hc' := hc <;> try simp only [decide_eq_true_eq, decide_eq_false_iff_not, Bool.not_eq_true', Bool.not_eq_false', Bool.not_eq_true, Bool.not_eq_false, beq_iff_eq, bne_iff_ne, beq_eq_false_iff_ne, bne_eq_false_iff_eq, Int.not_lt, Int.not_le, ge_iff_le, gt_iff_lt, not_and, ne_eq, Decidable.not_not] at hc'
    all_goals (try (dsimp only [st, setL, AV.cells, List.set_cons_zero, List.set_cons_succ, List.drop_zero, List.drop_succ_cons, List.take_zero, List.take_succ_cons, Nat.zero_add, Nat.add_zero, Nat.reduceAdd, List.cons_append, List.nil_append, List.eraseIdx_cons_zero, List.eraseIdx_cons_succ]))
    all_goals (refine W ?_)
    · refine IH (m - 1) _ _ (by omega) ⟨k + 1, exJ rfl, rfl, by omega, by omega, by rw [toNat_succ h0']; exact take_lt hy hlt hc'⟩
    · have hny : ¬ y < n := by omega
      refine LS_ix (fun h' HL => hR.le HL.le) enI1 hy h0' rfl rfl fun q o hrow => ?_
      try (dsimp only [st, setL, AV.cells, List.set_cons_zero, List.set_cons_succ, List.drop_zero, List.drop_succ_cons, List.take_zero, List.take_succ_cons, Nat.zero_add, Nat.add_zero, Nat.reduceAdd, List.cons_append, List.nil_append, List.eraseIdx_cons_zero, List.eraseIdx_cons_succ])
      refine W ?_
      (first | refine LS_gt rfl ?_ ?_ | refine LS_gf rfl ?_ ?_ | refine LI_cond rfl ?_ ?_) <;> intro hc <;> have hc' := hc <;> try simp only [decide_eq_true_eq, decide_eq_false_iff_not, Bool.not_eq_true', Bool.not_eq_false', Bool.not_eq_true, Bool.not_eq_false, beq_iff_eq, bne_iff_ne, beq_eq_false_iff_ne, bne_eq_false_iff_eq, Int.not_lt, Int.not_le, ge_iff_le, gt_iff_lt, not_and, ne_eq, Decidable.not_not] at hc'
      all_goals (try (dsimp only [st, setL, AV.cells, List.set_cons_zero, List.set_cons_succ, List.drop_zero, List.drop_succ_cons, List.take_zero, List.take_succ_cons, Nat.zero_add, Nat.add_zero, Nat.reduceAdd, List.cons_append, List.nil_append, List.eraseIdx_cons_zero, List.eraseIdx_cons_succ]))
      all_goals (refine W ?_)
      · exact absurd (hc' ▸ hym) hnm
      · have e : putL l n = ([] ++ (l.take k.toNat).drop 0 ++ [n]) ++ (l.take l.length).drop k.toNat := by
          rw [hput, hd]
          simp only [putL, if_neg hny, if_neg hc']
          rw [← hd]
          simp
        refine LS_lt ([] : List Int) rfl rfl (by decide) rfl rfl rfl rfl enI1 rfl rfl fun lit1 hlit1 slit1 => ?_
        try (dsimp only [st, setL, AV.cells, List.set_cons_zero, List.set_cons_succ, List.drop_zero, List.drop_succ_cons, List.take_zero, List.take_succ_cons, Nat.zero_add, Nat.add_zero, Nat.reduceAdd, List.cons_append, List.nil_append, List.eraseIdx_cons_zero, List.eraseIdx_cons_succ])
        refine W ?_
        refine LS_sz (u := k.toNat) (fun h' HL => hR.le HL.le) enI1 (.inl ⟨rfl, rfl⟩) (.inr ⟨_, _, _, rfl, rfl, h0', rfl⟩) (by omega) (by omega) rfl fun w1 hw1 sw1 rw1 => ?_
        try (dsimp only [st, setL, AV.cells, List.set_cons_zero, List.set_cons_succ, List.drop_zero, List.drop_succ_cons, List.take_zero, List.take_succ_cons, Nat.zero_add, Nat.add_zero, Nat.reduceAdd, List.cons_append, List.nil_append, List.eraseIdx_cons_zero, List.eraseIdx_cons_succ])
        refine W ?_
        refine LS_ap0 0 rfl (fun h' HL => rw1 h' (hR.le HL.le)) enI1 (by decide) (by simp; omega) (by simp; omega) rfl rfl rfl fun w2 hw2 sw2 => ?_
        try (dsimp only [st, setL, AV.cells, List.set_cons_zero, List.set_cons_succ, List.drop_zero, List.drop_succ_cons, List.take_zero, List.take_succ_cons, Nat.zero_add, Nat.add_zero, Nat.reduceAdd, List.cons_append, List.nil_append, List.eraseIdx_cons_zero, List.eraseIdx_cons_succ])
        refine W ?_
        refine LS_lt [n] rfl rfl (by decide) rfl rfl rfl rfl enI1 rfl rfl fun lit4 hlit4 slit4 => ?_
        try (dsimp only [st, setL, AV.cells, List.set_cons_zero, List.set_cons_succ, List.drop_zero, List.drop_succ_cons, List.take_zero, List.take_succ_cons, Nat.zero_add, Nat.add_zero, Nat.reduceAdd, List.cons_append, List.nil_append, List.eraseIdx_cons_zero, List.eraseIdx_cons_succ])
        refine W ?_
        refine LS_ap 1 rfl (fun h' HL => HL.rdI 0 rfl enI1 (by decide)) enI1 (by decide) (by simp) (by simp; omega) (by simp; omega) rfl rfl rfl fun w5 hw5 sw5 => ?_
        try (dsimp only [st, setL, AV.cells, List.set_cons_zero, List.set_cons_succ, List.drop_zero, List.drop_succ_cons, List.take_zero, List.take_succ_cons, Nat.zero_add, Nat.add_zero, Nat.reduceAdd, List.cons_append, List.nil_append, List.eraseIdx_cons_zero, List.eraseIdx_cons_succ])
        refine W ?_
        refine LS_sz (u := l.length) (q := k.toNat) (fun h' HL => hR.le HL.le) enI1 (.inr ⟨_, _, _, rfl, rfl, h0', rfl⟩) (.inl ⟨rfl, rfl⟩) (by omega) (by omega) rfl fun w6 hw6 sw6 rw6 => ?_
        try (dsimp only [st, setL, AV.cells, List.set_cons_zero, List.set_cons_succ, List.drop_zero, List.drop_succ_cons, List.take_zero, List.take_succ_cons, Nat.zero_add, Nat.add_zero, Nat.reduceAdd, List.cons_append, List.nil_append, List.eraseIdx_cons_zero, List.eraseIdx_cons_succ])
        refine W ?_
        refine LS_ap0 1 rfl (fun h' HL => rw6 h' (hR.le HL.le)) enI1 (by decide) (by simp; omega) (by simp; omega) rfl rfl rfl fun w7 hw7 sw7 => ?_
        try (dsimp only [st, setL, AV.cells, List.set_cons_zero, List.set_cons_succ, List.drop_zero, List.drop_succ_cons, List.take_zero, List.take_succ_cons, Nat.zero_add, Nat.add_zero, Nat.reduceAdd, List.cons_append, List.nil_append, List.eraseIdx_cons_zero, List.eraseIdx_cons_succ])
        refine W ?_
        refine RET fun h' HL => ?_
        try dsimp only [oneA]
        rw [e]
        exact HL.ownI 1 rfl enI1 (by decide)
  · have hk : k.toNat = l.length := by omega
    have e : putL l n = ([] ++ (l.take k.toNat).drop 0 ++ [n]) ++ (l.take l.length).drop k.toNat := by
      rw [hput, hk]
      simp [putL]
    refine LS_lt ([] : List Int) rfl rfl (by decide) rfl rfl rfl rfl enI1 rfl rfl fun lit1 hlit1 slit1 => ?_
    try (dsimp only [st, setL, AV.cells, List.set_cons_zero, List.set_cons_succ, List.drop_zero, List.drop_succ_cons, List.take_zero, List.take_succ_cons, Nat.zero_add, Nat.add_zero, Nat.reduceAdd, List.cons_append, List.nil_append, List.eraseIdx_cons_zero, List.eraseIdx_cons_succ])
    refine W ?_
    refine LS_sz (u := k.toNat) (fun h' HL => hR.le HL.le) enI1 (.inl ⟨rfl, rfl⟩) (.inr ⟨_, _, _, rfl, rfl, h0', rfl⟩) (by omega) (by omega) rfl fun w1 hw1 sw1 rw1 => ?_
    try (dsimp only [st, setL, AV.cells, List.set_cons_zero, List.set_cons_succ, List.drop_zero, List.drop_succ_cons, List.take_zero, List.take_succ_cons, Nat.zero_add, Nat.add_zero, Nat.reduceAdd, List.cons_append, List.nil_append, List.eraseIdx_cons_zero, List.eraseIdx_cons_succ])
    refine W ?_
    refine LS_ap0 0 rfl (fun h' HL => rw1 h' (hR.le HL.le)) enI1 (by decide) (by simp; omega) (by simp; omega) rfl rfl rfl fun w2 hw2 sw2 => ?_
    try (dsimp only [st, setL, AV.cells, List.set_cons_zero, List.set_cons_succ, List.drop_zero, List.drop_succ_cons, List.take_zero, List.take_succ_cons, Nat.zero_add, Nat.add_zero, Nat.reduceAdd, List.cons_append, List.nil_append, List.eraseIdx_cons_zero, List.eraseIdx_cons_succ])
    refine W ?_
    refine LS_lt [n] rfl rfl (by decide) rfl rfl rfl rfl enI1 rfl rfl fun lit4 hlit4 slit4 => ?_
    try (dsimp only [st, setL, AV.cells, List.set_cons_zero, List.set_cons_succ, List.drop_zero, List.drop_succ_cons, List.take_zero, List.take_succ_cons, Nat.zero_add, Nat.add_zero, Nat.reduceAdd, List.cons_append, List.nil_append, List.eraseIdx_cons_zero, List.eraseIdx_cons_succ])
    refine W ?_
    refine LS_ap 1 rfl (fun h' HL => HL.rdI 0 rfl enI1 (by decide)) enI1 (by decide) (by simp) (by simp; omega) (by simp; omega) rfl rfl rfl fun w5 hw5 sw5 => ?_
    try (dsimp only [st, setL, AV.cells, List.set_cons_zero, List.set_cons_succ, List.drop_zero, List.drop_succ_cons, List.take_zero, List.take_succ_cons, Nat.zero_add, Nat.add_zero, Nat.reduceAdd, List.cons_append, List.nil_append, List.eraseIdx_cons_zero, List.eraseIdx_cons_succ])
    refine W ?_
    refine LS_sz (u := l.length) (q := k.toNat) (fun h' HL => hR.le HL.le) enI1 (.inr ⟨_, _, _, rfl, rfl, h0', rfl⟩) (.inl ⟨rfl, rfl⟩) (by omega) (by omega) rfl fun w6 hw6 sw6 rw6 => ?_
    try (dsimp only [st, setL, AV.cells, List.set_cons_zero, List.set_cons_succ, List.drop_zero, List.drop_succ_cons, List.take_zero, List.take_succ_cons, Nat.zero_add, Nat.add_zero, Nat.reduceAdd, List.cons_append, List.nil_append, List.eraseIdx_cons_zero, List.eraseIdx_cons_succ])
    refine W ?_
    refine LS_ap0 1 rfl (fun h' HL => rw6 h' (hR.le HL.le)) enI1 (by decide) (by simp; omega) (by simp; omega) rfl rfl rfl fun w7 hw7 sw7 => ?_
    try (dsimp only [st, setL, AV.cells, List.set_cons_zero, List.set_cons_succ, List.drop_zero, List.drop_succ_cons, List.take_zero, List.take_succ_cons, Nat.zero_add, Nat.add_zero, Nat.reduceAdd, List.cons_append, List.nil_append, List.eraseIdx_cons_zero, List.eraseIdx_cons_succ])
    refine W ?_
    refine RET fun h' HL => ?_
    try dsimp only [oneA]
    rw [e]
    exact HL.ownI 1 rfl enI1 (by decide)

/-! ### A slice of ints sorted by the library -/
open Go.Shelf in
def Try.mSort_ren : Go.Shelf.Ren := ⟨fun | 5 => 87 | 8 => 83 | 7 => 102 | 19 => 98 | 20 => 99 | 10 => 103 | 11 => 104 | 12 => 105 | 13 => 106 | 14 => 107 | 15 => 108 | 16 => 109 | 17 => 110 | 18 => 111 | 30 => 112 | 31 => 113 | 32 => 114 | 33 => 115 | 34 => 116 | 35 => 117 | 40 => 118 | n => n, fun | 23 => 22 | 25 => 3 | 3 => 3 | 32 => 67 | 22 => 22 | 0 => 0 | 44 => 75 | 46 => 59 | 4 => 4 | 36 => 80 | 35 => 79 | 41 => 40 | 5 => 5 | 9 => 9 | 53 => 84 | 57 => 88 | 63 => 90 | 64 => 44 | n => n, fun | n => n⟩
open Go.Shelf in
theorem Try.mSort : Go.Proofs.SlLaysM.n5 Try.prog Try.mSort_ren := {
  mixed := by kernel_rfl
  f5 := ⟨Try.f87.name, by decide, Try.func87.trans (congrArg some (by kernel_rfl))⟩
  f7 := ⟨Try.f102.name, by decide, Try.func102.trans (congrArg some (by kernel_rfl))⟩
  f8 := Try.func83.trans (congrArg some (by kernel_rfl))
  f10 := ⟨Try.f103.name, by decide, Try.func103.trans (congrArg some (by kernel_rfl))⟩
  f11 := ⟨Try.f104.name, by decide, Try.func104.trans (congrArg some (by kernel_rfl))⟩
  f12 := ⟨Try.f105.name, by decide, Try.func105.trans (congrArg some (by kernel_rfl))⟩
  f13 := ⟨Try.f106.name, by decide, Try.func106.trans (congrArg some (by kernel_rfl))⟩
  f14 := ⟨Try.f107.name, by decide, Try.func107.trans (congrArg some (by kernel_rfl))⟩
  f15 := ⟨Try.f108.name, by decide, Try.func108.trans (congrArg some (by kernel_rfl))⟩
  f16 := ⟨Try.f109.name, by decide, Try.func109.trans (congrArg some (by kernel_rfl))⟩
  f17 := ⟨Try.f110.name, by decide, Try.func110.trans (congrArg some (by kernel_rfl))⟩
  f18 := ⟨Try.f111.name, by decide, Try.func111.trans (congrArg some (by kernel_rfl))⟩
  f19 := Try.func98.trans (congrArg some (by kernel_rfl))
  f20 := Try.func99.trans (congrArg some (by kernel_rfl))
  f30 := ⟨Try.f112.name, by decide, Try.func112.trans (congrArg some (by kernel_rfl))⟩
  f31 := Try.func113.trans (congrArg some (by kernel_rfl))
  f32 := Try.func114.trans (congrArg some (by kernel_rfl))
  f33 := ⟨Try.f115.name, by decide, Try.func115.trans (congrArg some (by kernel_rfl))⟩
  f34 := ⟨Try.f116.name, by decide, Try.func116.trans (congrArg some (by kernel_rfl))⟩
  f35 := ⟨Try.f117.name, by decide, Try.func117.trans (congrArg some (by kernel_rfl))⟩
  f40 := ⟨Try.f118.name, by decide, Try.func118.trans (congrArg some (by kernel_rfl))⟩
  t0 := Try.underlying0
  a0 := Try.isAgg0
  z0 := Try.sizeOf0
  v0 := Try.zeroValue0
  t3 := Try.underlying3
  a3 := Try.isAgg3
  z3 := Try.sizeOf3
  v3 := Try.zeroValue3
  t4 := Try.underlying4
  a4 := Try.isAgg4
  z4 := Try.sizeOf4
  v4 := Try.zeroValue4
  t5 := Try.underlying5
  a5 := Try.isAgg5
  z5 := Try.sizeOf5
  v5 := Try.zeroValue5
  t9 := Try.underlying9
  a9 := Try.isAgg9
  z9 := Try.sizeOf9
  v9 := Try.zeroValue9
  t22 := Try.underlying22
  a22 := Try.isAgg22
  z22 := Try.sizeOf22
  v22 := Try.zeroValue22
  t23 := Try.underlying22
  a23 := Try.isAgg22
  z23 := Try.sizeOf22
  v23 := Try.zeroValue22
  t25 := Try.underlying3
  a25 := Try.isAgg3
  z25 := Try.sizeOf3
  v25 := Try.zeroValue3
  t32 := Try.underlying67
  a32 := Try.isAgg67
  z32 := Try.sizeOf67
  v32 := Try.zeroValue67
  t35 := Try.underlying79
  a35 := Try.isAgg79
  z35 := Try.sizeOf79
  v35 := Try.zeroValue79
  t36 := Try.underlying80
  a36 := Try.isAgg80
  z36 := Try.sizeOf80
  v36 := Try.zeroValue80
  t41 := Try.underlying40
  a41 := Try.isAgg40
  z41 := Try.sizeOf40
  v41 := Try.zeroValue40
  t44 := Try.underlying75
  a44 := Try.isAgg75
  z44 := Try.sizeOf75
  v44 := Try.zeroValue75
  t46 := Try.underlying59
  a46 := Try.isAgg59
  z46 := Try.sizeOf59
  v46 := Try.zeroValue59
  t53 := Try.underlying84
  a53 := Try.isAgg84
  z53 := Try.sizeOf84
  v53 := Try.zeroValue84
  t57 := Try.underlying88
  a57 := Try.isAgg88
  z57 := Try.sizeOf88
  v57 := Try.zeroValue88
  t63 := Try.underlying90
  a63 := Try.isAgg90
  z63 := Try.sizeOf90
  v63 := Try.zeroValue90
  t64 := Try.underlying44
  a64 := Try.isAgg44
  z64 := Try.sizeOf44
  v64 := Try.zeroValue44 }
theorem slSort_ac {h0 h : AH} {L : List It} {v : AV} {l : List Int} (HL : Loq h0 h (.sl v 1 (l.flatMap enI) :: L)) (hl : l.length < 4611686018427387904) :
    AC Try.prog 87 [v] h (fun r h' => ∃ M, (r = un ∧ M = .sl v 1 ((l.mergeSort fun x y => decide (x ≤ y)).flatMap enI) :: L) ∧ Loq h0 h' M) :=
  sort_ac ⟨_, Try.func87, by kernel_rfl, by kernel_rfl⟩ (fun blk off cap zs w hH hb hs => AnyM.slices_Sort_int Try.mSort blk off cap zs w hH hb hs) (fun p cap w => AnyM.slices_Sort_int_none Try.mSort p cap w) HL hl

/-! ### The ends of star chains -/
theorem rise_len : ∀ (l : List Int) (lo hi : Int), l.Pairwise (· < ·) → (∀ x ∈ l, lo ≤ x ∧ x ≤ hi) → lo ≤ hi + 1 → (l.length : Int) ≤ hi + 1 - lo
  | [], lo, hi, _, _, h => by simp; omega
  | x :: l, lo, hi, hp, hb, _ => by
    rw [List.pairwise_cons] at hp
    have hx := hb x (by simp)
    have := rise_len l (x + 1) hi hp.2 (fun y hy => ⟨by have := hp.1 y hy; omega, (hb y (by simp [hy])).2⟩) (by omega)
    simp only [List.length_cons]
    omega

theorem putN_in {n : Int} : ∀ {l : List Int}, l.Pairwise (· < ·) → n ∈ l → putN n l = l
  | [], _, h => by simp at h
  | x :: l, hp, h => by
    rw [List.pairwise_cons] at hp
    rw [putN]
    by_cases h1 : x < n
    · rw [if_pos h1]
      have : n ∈ l := by
        rcases List.mem_cons.1 h with e | e
        · omega
        · exact e
      rw [putN_in hp.2 this]
    · rw [if_neg h1]
      have : x = n := by
        rcases List.mem_cons.1 h with e | e
        · exact e.symm
        · have := hp.1 n e; omega
      rw [if_pos this]

theorem l1PutE_ac (l : List Int) (n : Int) (v : AV) (h0 h : AH) (L : List It) (HL : Loq h0 h (.sl v 1 (l.flatMap enI) :: L)) (hp : l.Pairwise (· < ·)) (hn : n ∈ l) (hl : l.length ≤ 1048576) :
    AC Try.prog 91 [v, .i .i64 n] h (fun r h' => ∃ M, (r = v ∧ M = .sl v 1 (l.flatMap enI) :: L) ∧ Loq h0 h' M) := by
  have hRl := (HL.rdI 0 rfl enI1 (by decide)).len
  have svv := rd_sc (HL.rdI 0 rfl enI1 (by decide))
  refine e91 _ _ fun wf => ?_
  unfold c91
  refine LI_startL HL ?_
  refine W ?_
  refine LIL_ind (fun m a L' => ∃ (k : Int), (∃ r : Nat → AV, a = [v, .i .i64 n, r 2, r 3, r 4, .i .i64 k, r 6, r 7, r 8, r 9, r 10, r 11, r 12, r 13, r 14, r 15, r 16, r 17, r 18, r 19, r 20, r 21, r 22, r 23, r 24, r 25, r 26, r 27, r 28, r 29, r 30, r 31, r 32, r 33, r 34, r 35, r 36, r 37, r 38, r 39, r 40, r 41, r 42, r 43, r 44, r 45, r 46, r 47]) ∧ L' = .sl v 1 (l.flatMap enI) :: L ∧ 0 ≤ k ∧ k + m = l.length ∧ n ∈ l.drop k.toNat)
    l.length ⟨0, exJ rfl, rfl, by omega, by omega, hn⟩ ?_
  rintro m a L' ⟨k, ⟨r, rfl⟩, rfl, h0', hm, hin⟩ IH
  refine W ?_
  (first | refine LS_gt rfl ?_ ?_ | refine LS_gf rfl ?_ ?_ | refine LI_cond rfl ?_ ?_) <;> intro hc <;> have hc' := hc <;> try simp only [decide_eq_true_eq, decide_eq_false_iff_not, Bool.not_eq_true', Bool.not_eq_false', Bool.not_eq_true, Bool.not_eq_false, beq_iff_eq, bne_iff_ne, beq_eq_false_iff_ne, bne_eq_false_iff_eq, Int.not_lt, Int.not_le, ge_iff_le, gt_iff_lt, not_and, ne_eq, Decidable.not_not] at hc'
  all_goals (try (dsimp only [st, setL, AV.cells, List.set_cons_zero, List.set_cons_succ, List.drop_zero, List.drop_succ_cons, List.take_zero, List.take_succ_cons, Nat.zero_add, Nat.add_zero, Nat.reduceAdd, List.cons_append, List.nil_append, List.eraseIdx_cons_zero, List.eraseIdx_cons_succ]))
  all_goals (refine W ?_)
  · obtain ⟨y, hy, hym, hd⟩ := drop_at (l := l) h0' hc'
    rw [hd] at hin
    have hpd : (l.drop k.toNat).Pairwise (· < ·) := hp.sublist (List.drop_sublist _ _)
    rw [hd, List.pairwise_cons] at hpd
    refine LS_ix (fun h' HL => HL.rdI 0 rfl enI1 (by decide)) enI1 hy h0' rfl rfl fun q o hrow => ?_
    try (dsimp only [st, setL, AV.cells, List.set_cons_zero, List.set_cons_succ, List.drop_zero, List.drop_succ_cons, List.take_zero, List.take_succ_cons, Nat.zero_add, Nat.add_zero, Nat.reduceAdd, List.cons_append, List.nil_append, List.eraseIdx_cons_zero, List.eraseIdx_cons_succ])
    refine W ?_
    (first | refine LS_gt rfl ?_ ?_ | refine LS_gf rfl ?_ ?_ | refine LI_cond rfl ?_ ?_) <;> intro hc <;> have hc' := hc <;> try simp only [decide_eq_true_eq, decide_eq_false_iff_not, Bool.not_eq_true', Bool.not_eq_false', Bool.not_eq_true, Bool.not_eq_false, beq_iff_eq, bne_iff_ne, beq_eq_false_iff_ne, bne_eq_false_iff_eq, Int.not_lt, Int.not_le, ge_iff_le, gt_iff_lt, not_and, ne_eq, Decidable.not_not] at hc'
    all_goals (try (dsimp only [st, setL, AV.cells, List.set_cons_zero, List.set_cons_succ, List.drop_zero, List.drop_succ_cons, List.take_zero, List.take_succ_cons, Nat.zero_add, Nat.add_zero, Nat.reduceAdd, List.cons_append, List.nil_append, List.eraseIdx_cons_zero, List.eraseIdx_cons_succ]))
    all_goals (refine W ?_)
    · refine IH (m - 1) _ _ (by omega) ⟨k + 1, exJ rfl, rfl, by omega, by omega, ?_⟩
      rw [toNat_succ h0']
      rcases List.mem_cons.1 hin with e | e
      · omega
      · exact e
    · have hyn : y = n := by
        rcases List.mem_cons.1 hin with e | e
        · exact e.symm
        · have := hpd.1 n e; omega
      refine LS_ix (fun h' HL => HL.rdI 0 rfl enI1 (by decide)) enI1 hy h0' rfl rfl fun q o hrow => ?_
      try (dsimp only [st, setL, AV.cells, List.set_cons_zero, List.set_cons_succ, List.drop_zero, List.drop_succ_cons, List.take_zero, List.take_succ_cons, Nat.zero_add, Nat.add_zero, Nat.reduceAdd, List.cons_append, List.nil_append, List.eraseIdx_cons_zero, List.eraseIdx_cons_succ])
      refine W ?_
      first | (refine LS_gyH rfl (by simp [hyn]) ?_; intro hg) | (refine LI_cond_tH rfl (by simp [hyn]) ?_; intro hg)
      refine W ?_
      refine RET fun h' HL => ?_
      try dsimp only [oneA]
      exact ⟨_, ⟨rfl, rfl⟩, HL⟩
  · exfalso
    rw [List.drop_eq_nil_of_le (by omega)] at hin
    simp at hin

theorem l1PutM_ac (l : List Int) (n : Int) (v : AV) (h0 h : AH) (L : List It) (HL : Loq h0 h (.sl v 1 (l.flatMap enI) :: L)) (hp : l.Pairwise (· < ·)) (hl : l.length ≤ 1048576) :
    AC Try.prog 91 [v, .i .i64 n] h (fun r h' => ∃ M, (lenA r = some (putN n l).length ∧ r.sc = true ∧ M = .sl r 1 ((putN n l).flatMap enI) :: L) ∧ Loq h0 h' M) := by
  have hR := HL.rdI 0 rfl enI1 (by decide)
  by_cases hn : n ∈ l
  · refine (l1PutE_ac l n v h0 h L HL hp hn hl).mono ?_
    rintro _ h' ⟨_, ⟨rfl, rfl⟩, HL'⟩
    rw [putN_in hp hn]
    exact ⟨_, ⟨hR.len, rd_sc hR, rfl⟩, HL'⟩
  · refine (l1PutN_ac l n v h hR hl hn).mono ?_
    intro r h' hO
    rw [← putNL] at hO
    exact ⟨_, ⟨hO.rd.len, rd_sc hO.rd, rfl⟩, (HL.call (hO.loc enI1)).sub (.cons_cons _ (.cons _ (.refl _)))⟩

theorem allE_bd : ∀ (k : Nat) (c : List Int), goodC c → ∀ n ∈ allE k c, 1 ≤ n ∧ n ≤ lastD c * 2 ^ k
  | 0, c, hg, n, hn => by
    rw [allE] at hn
    rw [List.mem_singleton.1 hn]
    have := hg.last
    omega
  | k + 1, c, hg, n, hn => by
    rw [allE, List.mem_flatMap] at hn
    obtain ⟨x, hx, hn⟩ := hn
    have h1 := allE_bd k _ (goodC_snoc hg hx) n hn
    rw [lastD_snoc] at h1
    have h2 := hg.2 x hx
    have hp : (0 : Int) ≤ 2 ^ k := Int.le_of_lt (Int.pow_pos (by decide))
    have h3 : (lastD c + x) * 2 ^ k ≤ (2 * lastD c) * 2 ^ k := Int.mul_le_mul_of_nonneg_right (by omega) hp
    have h4 : (2 * lastD c) * 2 ^ k = lastD c * 2 ^ (k + 1) := by rw [Int.pow_succ, Int.mul_comm 2, Int.mul_assoc, Int.mul_comm 2]
    omega

theorem foldP_bd {es l : List Int} (h1 : ∀ x ∈ es, 1 ≤ x ∧ x ≤ 64) (h2 : ∀ x ∈ l, 1 ≤ x ∧ x ≤ 64) : ∀ x ∈ es.foldl (fun l n => putN n l) l, 1 ≤ x ∧ x ≤ 64 := by
  intro x hx
  rcases (foldP_mem es l).1 hx with h | h
  · exact h1 x h
  · exact h2 x h

theorem half_ok {y x : Int} {k : Nat} (hy : 1 ≤ y) (hx : 0 ≤ x ∧ x ≤ y) (h : y * 2 ^ (k + 1) ≤ 64) : (y + x) * 2 ^ k ≤ 64 ∧ y ≤ 32 := by
  have hp : (1 : Int) ≤ 2 ^ k := Int.pow_pos (by decide)
  have h3 : (y + x) * 2 ^ k ≤ (2 * y) * 2 ^ k := Int.mul_le_mul_of_nonneg_right (by omega) (by omega)
  have h4 : (2 * y) * 2 ^ k = y * 2 ^ (k + 1) := by rw [Int.pow_succ, Int.mul_comm 2, Int.mul_assoc, Int.mul_comm 2]
  have h5 : (2 * y) * 1 ≤ (2 * y) * 2 ^ k := Int.mul_le_mul_of_nonneg_left hp (by omega)
  omega

theorem shEnds_ac : ∀ (k : Nat) (z : Int) (c l : List Int) (u v : AV) (h0 h : AH) (L : List It), z = k → c.length + k ≤ 7 → goodC c → lastD c * 2 ^ k ≤ 64 → l.Pairwise (· < ·) → (∀ x ∈ l, 1 ≤ x ∧ x ≤ 64) → (∀ h', Loq h0 h' L → Rd h' u c) → Loq h0 h (.sl v 1 (l.flatMap enI) :: L) →
    AC Try.prog 85 [u, .i .i64 z, v] h (fun r h' => ∃ M, (lenA r = some ((allE k c).foldl (fun l n => putN n l) l).length ∧ r.sc = true ∧ M = .sl r 1 (((allE k c).foldl (fun l n => putN n l) l).flatMap enI) :: L) ∧ Loq h0 h' M)
  | 0, z, c, l, u, v, h0, h, L, hz, hk, hgc, h64, hp, hb, hu, HL => by
    have hR := hu h HL.tail
    have hln := hR.len
    have hcl : 0 < c.length := List.length_pos_iff.2 hgc.1
    have hll := rise_len l 1 64 hp hb (by omega)
    have svv := rd_sc (HL.rdI 0 rfl enI1 (by decide))
    refine e85 _ _ _ fun wf => ?_
    unfold c85
    refine LI_startL HL ?_
    refine W ?_
    refine LS_ix (y := lastD c) (fun h' HL' => hu h' HL'.tail) enI1 (lastD_at hgc) (by omega) rfl rfl fun q1 o1 hrow1 => ?_
    try (dsimp only [st, setL, AV.cells, List.set_cons_zero, List.set_cons_succ, List.drop_zero, List.drop_succ_cons, List.take_zero, List.take_succ_cons, Nat.zero_add, Nat.add_zero, Nat.reduceAdd, List.cons_append, List.nil_append, List.eraseIdx_cons_zero, List.eraseIdx_cons_succ])
    refine W ?_
    first | (refine LS_gyH rfl (by simp [hz]) ?_; intro hg) | (refine LI_cond_tH rfl (by simp [hz]) ?_; intro hg)
    refine W ?_
    refine LS_cm (.refl _) (fun h' HL' wf => l1PutM_ac l (lastD c) v h0 h' L HL' hp (by omega)) rfl rfl ?_
    try (dsimp only [st, setL, AV.cells, List.set_cons_zero, List.set_cons_succ, List.drop_zero, List.drop_succ_cons, List.take_zero, List.take_succ_cons, Nat.zero_add, Nat.add_zero, Nat.reduceAdd, List.cons_append, List.nil_append, List.eraseIdx_cons_zero, List.eraseIdx_cons_succ])
    refine W ?_
    rintro r _ ⟨lr, sr, rfl⟩
    try (dsimp only [st, setL, AV.cells, List.set_cons_zero, List.set_cons_succ, List.drop_zero, List.drop_succ_cons, List.take_zero, List.take_succ_cons, Nat.zero_add, Nat.add_zero, Nat.reduceAdd, List.cons_append, List.nil_append, List.eraseIdx_cons_zero, List.eraseIdx_cons_succ])
    refine W ?_
    refine RET fun h' HL => ?_
    try dsimp only [oneA]
    exact ⟨_, ⟨lr, sr, rfl⟩, HL⟩
  | k + 1, z, c, l, u, v, h0, h, L, hz, hk, hgc, h64, hp, hb, hu, HL => by
    have hR := hu h HL.tail
    have hln := hR.len
    have hcl : 0 < c.length := List.length_pos_iff.2 hgc.1
    have hl1 := hgc.last
    have svv := rd_sc (HL.rdI 0 rfl enI1 (by decide))
    have lvv := (HL.rdI 0 rfl enI1 (by decide)).len
    obtain ⟨A, hA⟩ : ∃ A : Nat → List Int, A = fun m => ((c.take m).flatMap fun x => allE k (c ++ [lastD c + x])).foldl (fun l n => putN n l) l := ⟨_, rfl⟩
    have hA0 : A 0 = l := by rw [hA]; simp
    have hAs : ∀ (m : Nat) (x : Int), c[m]? = some x → (allE k (c ++ [lastD c + x])).foldl (fun l n => putN n l) (A m) = A (m + 1) := by
      intro m x hx
      rw [hA]
      show _ = ((c.take (m + 1)).flatMap _).foldl _ _
      rw [take_snoc hx, List.flatMap_append, List.foldl_append]
      simp
    have hAend : A c.length = (allE (k + 1) c).foldl (fun l n => putN n l) l := by
      rw [hA]
      show ((c.take c.length).flatMap _).foldl _ _ = _
      rw [List.take_length]; rfl
    have hAg : ∀ m, (A m).Pairwise (· < ·) ∧ ∀ x ∈ A m, 1 ≤ x ∧ x ≤ 64 := by
      intro m
      rw [hA]
      refine ⟨foldP_sorted _ _ hp, foldP_bd (fun n hn => ?_) hb⟩
      obtain ⟨x, hx, hn⟩ := List.mem_flatMap.1 hn
      have hxc := List.mem_of_mem_take hx
      have h1 := allE_bd k _ (goodC_snoc hgc hxc) n hn
      rw [lastD_snoc] at h1
      have h2 := hgc.2 x hxc
      have h3 := half_ok (y := lastD c) (x := x) (k := k) (by omega) (by omega) h64
      omega
    refine e85 _ _ _ fun wf => ?_
    unfold c85
    refine LI_startL HL ?_
    refine W ?_
    refine LS_ix (y := lastD c) (fun h' HL' => hu h' HL'.tail) enI1 (lastD_at hgc) (by omega) rfl rfl fun q1 o1 hrow1 => ?_
    try (dsimp only [st, setL, AV.cells, List.set_cons_zero, List.set_cons_succ, List.drop_zero, List.drop_succ_cons, List.take_zero, List.take_succ_cons, Nat.zero_add, Nat.add_zero, Nat.reduceAdd, List.cons_append, List.nil_append, List.eraseIdx_cons_zero, List.eraseIdx_cons_succ])
    refine W ?_
    first | (refine LS_gtnH rfl (decide_eq_false (by omega)) ?_; intro hg; try (dsimp only [st, setL, AV.cells, List.set_cons_zero, List.set_cons_succ, List.drop_zero, List.drop_succ_cons, List.take_zero, List.take_succ_cons, Nat.zero_add, Nat.add_zero, Nat.reduceAdd, List.cons_append, List.nil_append, List.eraseIdx_cons_zero, List.eraseIdx_cons_succ])) | (refine LS_gfnH rfl (decide_eq_false (by omega)) ?_; intro hg; try (dsimp only [st, setL, AV.cells, List.set_cons_zero, List.set_cons_succ, List.drop_zero, List.drop_succ_cons, List.take_zero, List.take_succ_cons, Nat.zero_add, Nat.add_zero, Nat.reduceAdd, List.cons_append, List.nil_append, List.eraseIdx_cons_zero, List.eraseIdx_cons_succ])) | (refine LI_cond_fH rfl (decide_eq_false (by omega)) ?_; intro hg)
    refine W ?_
    refine LIL_ind (fun j a L' => ∃ (o : AV) (i : Int), (∃ r : Nat → AV, a = [u, .i .i64 z, o, r 3, r 4, r 5, r 6, .i .i64 (lastD c), r 8, r 9, r 10, r 11, r 12, r 13, r 14, r 15, r 16, r 17, r 18, r 19, r 20, u, .i .i64 c.length, .i .i64 i, r 24, r 25, r 26, r 27, r 28, r 29, r 30, r 31, r 32, r 33, r 34, r 35, r 36, r 37, r 38, r 39]) ∧ L' = .sl o 1 ((A i.toNat).flatMap enI) :: L ∧ 0 ≤ i ∧ i + j = c.length ∧ lenA o = some (A i.toNat).length ∧ o.sc = true)
      c.length ⟨v, 0, exJ rfl, by rw [show (0 : Int).toNat = 0 from rfl, hA0], by omega, by omega, by rw [show (0 : Int).toNat = 0 from rfl, hA0]; exact lvv, svv⟩ ?_
    rintro j a _ ⟨o, i, ⟨r, rfl⟩, rfl, h0', hj, lo, so⟩ IH
    refine W ?_
    (first | refine LS_gt rfl ?_ ?_ | refine LS_gf rfl ?_ ?_ | refine LI_cond rfl ?_ ?_) <;> intro hc <;> have hc' := hc <;> try simp only [decide_eq_true_eq, decide_eq_false_iff_not, Bool.not_eq_true', Bool.not_eq_false', Bool.not_eq_true, Bool.not_eq_false, beq_iff_eq, bne_iff_ne, beq_eq_false_iff_ne, bne_eq_false_iff_eq, Int.not_lt, Int.not_le, ge_iff_le, gt_iff_lt, not_and, ne_eq, Decidable.not_not] at hc'
    all_goals (try (dsimp only [st, setL, AV.cells, List.set_cons_zero, List.set_cons_succ, List.drop_zero, List.drop_succ_cons, List.take_zero, List.take_succ_cons, Nat.zero_add, Nat.add_zero, Nat.reduceAdd, List.cons_append, List.nil_append, List.eraseIdx_cons_zero, List.eraseIdx_cons_succ]))
    all_goals (refine W ?_)
    · obtain ⟨x, hx, hxm, _⟩ := drop_at (l := c) h0' hc'
      have hxb := hgc.2 x hxm
      have hhf := half_ok (y := lastD c) (x := x) (k := k) (by omega) (by omega) h64
      refine LS_ix (fun h' HL' => hu h' HL'.tail) enI1 hx h0' rfl rfl fun q2 o2 hrow2 => ?_
      try (dsimp only [st, setL, AV.cells, List.set_cons_zero, List.set_cons_succ, List.drop_zero, List.drop_succ_cons, List.take_zero, List.take_succ_cons, Nat.zero_add, Nat.add_zero, Nat.reduceAdd, List.cons_append, List.nil_append, List.eraseIdx_cons_zero, List.eraseIdx_cons_succ])
      refine W ?_
      refine LS_co (fun h' HL' wf => l1Own_ac c u h' (hu h' HL'.tail) (by omega)) enI1 rfl rfl fun w1 lw1 sw1 => ?_
      try (dsimp only [st, setL, AV.cells, List.set_cons_zero, List.set_cons_succ, List.drop_zero, List.drop_succ_cons, List.take_zero, List.take_succ_cons, Nat.zero_add, Nat.add_zero, Nat.reduceAdd, List.cons_append, List.nil_append, List.eraseIdx_cons_zero, List.eraseIdx_cons_succ])
      refine W ?_
      refine LS_lt [lastD c + x] rfl rfl (by decide) rfl rfl rfl rfl enI1 rfl rfl fun w2 lw2 sw2 => ?_
      try (dsimp only [st, setL, AV.cells, List.set_cons_zero, List.set_cons_succ, List.drop_zero, List.drop_succ_cons, List.take_zero, List.take_succ_cons, Nat.zero_add, Nat.add_zero, Nat.reduceAdd, List.cons_append, List.nil_append, List.eraseIdx_cons_zero, List.eraseIdx_cons_succ])
      refine W ?_
      refine LS_ap 1 rfl (fun h' HL' => HL'.rdI 0 rfl enI1 (by decide)) enI1 (by decide) (by simp) (by simp; omega) (by simp; omega) rfl rfl rfl fun w3 lw3 sw3 => ?_
      try (dsimp only [st, setL, AV.cells, List.set_cons_zero, List.set_cons_succ, List.drop_zero, List.drop_succ_cons, List.take_zero, List.take_succ_cons, Nat.zero_add, Nat.add_zero, Nat.reduceAdd, List.cons_append, List.nil_append, List.eraseIdx_cons_zero, List.eraseIdx_cons_succ])
      refine W ?_
      refine LS_cm (List.perm_middle (l₁ := [_, _])) (fun h' HL' wf => shEnds_ac k (z - 1) (c ++ [lastD c + x]) (A i.toNat) w3 o h0 h' (.sl w2 1 ([lastD c + x].flatMap enI) :: .sl w3 1 ((c ++ [lastD c + x]).flatMap enI) :: L) (by omega) (by simp; omega) (goodC_snoc hgc hxm) (by rw [lastD_snoc]; exact hhf.1) (hAg _).1 (hAg _).2 (fun h2 HL2 => HL2.rdI 1 rfl enI1 (by decide)) HL') rfl rfl ?_
      try (dsimp only [st, setL, AV.cells, List.set_cons_zero, List.set_cons_succ, List.drop_zero, List.drop_succ_cons, List.take_zero, List.take_succ_cons, Nat.zero_add, Nat.add_zero, Nat.reduceAdd, List.cons_append, List.nil_append, List.eraseIdx_cons_zero, List.eraseIdx_cons_succ])
      refine W ?_
      rintro r _ ⟨lr, sr, rfl⟩
      try (dsimp only [st, setL, AV.cells, List.set_cons_zero, List.set_cons_succ, List.drop_zero, List.drop_succ_cons, List.take_zero, List.take_succ_cons, Nat.zero_add, Nat.add_zero, Nat.reduceAdd, List.cons_append, List.nil_append, List.eraseIdx_cons_zero, List.eraseIdx_cons_succ])
      rw [hAs _ _ hx] at lr ⊢
      refine W ?_
      refine LIL_sub (L' := .sl r 1 ((A (i.toNat + 1)).flatMap enI) :: L) (.cons_cons _ (.cons _ (.cons _ (.refl _)))) ?_
      refine IH (j - 1) _ _ (by omega) ⟨r, i + 1, exJ rfl, by rw [toNat_succ h0'], by omega, by omega, by rw [toNat_succ h0']; exact lr, sr⟩
    · have ei : i.toNat = c.length := by omega
      rw [ei, hAend] at lo ⊢
      refine RET fun h' HL => ?_
      try dsimp only [oneA]
      exact ⟨_, ⟨lo, so, rfl⟩, HL⟩

/-! ### The program's ends of star chains -/
def putB (es : List (Int × AV)) (n : Int) : List (Int × AV) := putI n (.b true) es

theorem ends_ac : ∀ (k : Nat) (z : Int) (c : List Int) (es : List (Int × AV)) (u : AV) (rm : Nat) (h0 h : AH) (L : List It), z = k → c.length + k ≤ 7 → goodC c → lastD c * 2 ^ k ≤ 64 → (∀ h', Loq h0 h' L → Rd h' u c) → Loq h0 h (.mp rm (mpI es) :: L) →
    AC Try.prog 86 [.i .i64 z, u, .m rm] h (fun q h' => ∃ M, (q = un ∧ M = .mp rm (mpI ((allE k c).foldl putB es)) :: L) ∧ Loq h0 h' M)
  | 0, z, c, es, u, rm, h0, h, L, hz, hk, hgc, h64, hu, HL => by
    have hR := hu h HL.tail
    have hln := hR.len
    have hcl : 0 < c.length := List.length_pos_iff.2 hgc.1
    refine e86 _ _ _ fun wf => ?_
    unfold c86
    refine LI_startL HL ?_
    refine W ?_
    refine LS_ix (y := lastD c) (fun h' HL' => hu h' HL'.tail) enI1 (lastD_at hgc) (by omega) rfl rfl fun q1 o1 hrow1 => ?_
    try (dsimp only [st, setL, AV.cells, List.set_cons_zero, List.set_cons_succ, List.drop_zero, List.drop_succ_cons, List.take_zero, List.take_succ_cons, Nat.zero_add, Nat.add_zero, Nat.reduceAdd, List.cons_append, List.nil_append, List.eraseIdx_cons_zero, List.eraseIdx_cons_succ])
    refine W ?_
    first | (refine LS_gyH rfl (by simp [hz]) ?_; intro hg) | (refine LI_cond_tH rfl (by simp [hz]) ?_; intro hg)
    refine W ?_
    refine LS_mput 0 Try.underlying69 Try.underlying3 rfl rfl rfl rfl ?_
    try (dsimp only [st, setL, AV.cells, List.set_cons_zero, List.set_cons_succ, List.drop_zero, List.drop_succ_cons, List.take_zero, List.take_succ_cons, Nat.zero_add, Nat.add_zero, Nat.reduceAdd, List.cons_append, List.nil_append, List.eraseIdx_cons_zero, List.eraseIdx_cons_succ])
    refine W ?_
    refine RET fun h' HL => ?_
    try dsimp only [oneA]
    exact ⟨_, ⟨rfl, rfl⟩, HL⟩
  | k + 1, z, c, es, u, rm, h0, h, L, hz, hk, hgc, h64, hu, HL => by
    have hR := hu h HL.tail
    have hln := hR.len
    have hcl : 0 < c.length := List.length_pos_iff.2 hgc.1
    have hl1 := hgc.last
    obtain ⟨A, hA⟩ : ∃ A : Nat → List (Int × AV), A = fun m => ((c.take m).flatMap fun x => allE k (c ++ [lastD c + x])).foldl putB es := ⟨_, rfl⟩
    have hA0 : A 0 = es := by rw [hA]; simp
    have hAs : ∀ (m : Nat) (x : Int), c[m]? = some x → (allE k (c ++ [lastD c + x])).foldl putB (A m) = A (m + 1) := by
      intro m x hx
      rw [hA]
      show _ = ((c.take (m + 1)).flatMap _).foldl _ _
      rw [take_snoc hx, List.flatMap_append, List.foldl_append]
      simp
    have hAend : A c.length = (allE (k + 1) c).foldl putB es := by
      rw [hA]
      show ((c.take c.length).flatMap _).foldl _ _ = _
      rw [List.take_length]; rfl
    refine e86 _ _ _ fun wf => ?_
    unfold c86
    refine LI_startL HL ?_
    refine W ?_
    refine LS_ix (y := lastD c) (fun h' HL' => hu h' HL'.tail) enI1 (lastD_at hgc) (by omega) rfl rfl fun q1 o1 hrow1 => ?_
    try (dsimp only [st, setL, AV.cells, List.set_cons_zero, List.set_cons_succ, List.drop_zero, List.drop_succ_cons, List.take_zero, List.take_succ_cons, Nat.zero_add, Nat.add_zero, Nat.reduceAdd, List.cons_append, List.nil_append, List.eraseIdx_cons_zero, List.eraseIdx_cons_succ])
    refine W ?_
    first | (refine LS_gtnH rfl (decide_eq_false (by omega)) ?_; intro hg; try (dsimp only [st, setL, AV.cells, List.set_cons_zero, List.set_cons_succ, List.drop_zero, List.drop_succ_cons, List.take_zero, List.take_succ_cons, Nat.zero_add, Nat.add_zero, Nat.reduceAdd, List.cons_append, List.nil_append, List.eraseIdx_cons_zero, List.eraseIdx_cons_succ])) | (refine LS_gfnH rfl (decide_eq_false (by omega)) ?_; intro hg; try (dsimp only [st, setL, AV.cells, List.set_cons_zero, List.set_cons_succ, List.drop_zero, List.drop_succ_cons, List.take_zero, List.take_succ_cons, Nat.zero_add, Nat.add_zero, Nat.reduceAdd, List.cons_append, List.nil_append, List.eraseIdx_cons_zero, List.eraseIdx_cons_succ])) | (refine LI_cond_fH rfl (decide_eq_false (by omega)) ?_; intro hg)
    refine W ?_
    refine LIL_ind (fun j a L' => ∃ (i : Int), (∃ r : Nat → AV, a = [.i .i64 z, u, .m rm, r 3, r 4, r 5, .i .i64 (lastD c), r 7, r 8, r 9, r 10, r 11, r 12, r 13, r 14, r 15, r 16, r 17, r 18, u, .i .i64 c.length, .i .i64 i, r 22, r 23, r 24, r 25, r 26, r 27, r 28, r 29, r 30, r 31, r 32, r 33, r 34, r 35, r 36]) ∧ L' = .mp rm (mpI (A i.toNat)) :: L ∧ 0 ≤ i ∧ i + j = c.length)
      c.length ⟨0, exJ rfl, by rw [show (0 : Int).toNat = 0 from rfl, hA0], by omega, by omega⟩ ?_
    rintro j a _ ⟨i, ⟨r, rfl⟩, rfl, h0', hj⟩ IH
    refine W ?_
    (first | refine LS_gt rfl ?_ ?_ | refine LS_gf rfl ?_ ?_ | refine LI_cond rfl ?_ ?_) <;> intro hc <;> have hc' := hc <;> try simp only [decide_eq_true_eq, decide_eq_false_iff_not, Bool.not_eq_true', Bool.not_eq_false', Bool.not_eq_true, Bool.not_eq_false, beq_iff_eq, bne_iff_ne, beq_eq_false_iff_ne, bne_eq_false_iff_eq, Int.not_lt, Int.not_le, ge_iff_le, gt_iff_lt, not_and, ne_eq, Decidable.not_not] at hc'
    all_goals (try (dsimp only [st, setL, AV.cells, List.set_cons_zero, List.set_cons_succ, List.drop_zero, List.drop_succ_cons, List.take_zero, List.take_succ_cons, Nat.zero_add, Nat.add_zero, Nat.reduceAdd, List.cons_append, List.nil_append, List.eraseIdx_cons_zero, List.eraseIdx_cons_succ]))
    all_goals (refine W ?_)
    · obtain ⟨x, hx, hxm, _⟩ := drop_at (l := c) h0' hc'
      have hxb := hgc.2 x hxm
      have hhf := half_ok (y := lastD c) (x := x) (k := k) (by omega) (by omega) h64
      refine LS_ix (fun h' HL' => hu h' HL'.tail) enI1 hx h0' rfl rfl fun q2 o2 hrow2 => ?_
      try (dsimp only [st, setL, AV.cells, List.set_cons_zero, List.set_cons_succ, List.drop_zero, List.drop_succ_cons, List.take_zero, List.take_succ_cons, Nat.zero_add, Nat.add_zero, Nat.reduceAdd, List.cons_append, List.nil_append, List.eraseIdx_cons_zero, List.eraseIdx_cons_succ])
      refine W ?_
      refine LS_c0 (fun h' HL' wf => Clip_ac c u h' (hu h' HL'.tail) (by omega)) rfl rfl ?_
      try (dsimp only [st, setL, AV.cells, List.set_cons_zero, List.set_cons_succ, List.drop_zero, List.drop_succ_cons, List.take_zero, List.take_succ_cons, Nat.zero_add, Nat.add_zero, Nat.reduceAdd, List.cons_append, List.nil_append, List.eraseIdx_cons_zero, List.eraseIdx_cons_succ])
      refine W ?_
      refine LS_lt [lastD c + x] rfl rfl (by decide) rfl rfl rfl rfl enI1 rfl rfl fun w2 lw2 sw2 => ?_
      try (dsimp only [st, setL, AV.cells, List.set_cons_zero, List.set_cons_succ, List.drop_zero, List.drop_succ_cons, List.take_zero, List.take_succ_cons, Nat.zero_add, Nat.add_zero, Nat.reduceAdd, List.cons_append, List.nil_append, List.eraseIdx_cons_zero, List.eraseIdx_cons_succ])
      refine W ?_
      refine LS_o (LO_apc (clipA_c hR) (fun h' HL' => clipA_rd (hu h' HL'.tail.tail)) (fun h' HL' => HL'.rdI 0 rfl enI1 (by decide)) enI1 (by decide) (by simp) (by simp; omega) (by simp; omega) rfl rfl rfl fun w3 lw3 sw3 => ?_)
      try (dsimp only [st, setL, AV.cells, List.set_cons_zero, List.set_cons_succ, List.drop_zero, List.drop_succ_cons, List.take_zero, List.take_succ_cons, Nat.zero_add, Nat.add_zero, Nat.reduceAdd, List.cons_append, List.nil_append, List.eraseIdx_cons_zero, List.eraseIdx_cons_succ])
      refine W ?_
      refine LS_cm (List.perm_middle (l₁ := [_, _])) (fun h' HL' wf => ends_ac k (z - 1) (c ++ [lastD c + x]) (A i.toNat) w3 rm h0 h' (.sl w3 1 ((c ++ [lastD c + x]).flatMap enI) :: .sl w2 1 ([lastD c + x].flatMap enI) :: L) (by omega) (by simp; omega) (goodC_snoc hgc hxm) (by rw [lastD_snoc]; exact hhf.1) (fun h2 HL2 => HL2.rdI 0 rfl enI1 (by decide)) HL') rfl rfl ?_
      try (dsimp only [st, setL, AV.cells, List.set_cons_zero, List.set_cons_succ, List.drop_zero, List.drop_succ_cons, List.take_zero, List.take_succ_cons, Nat.zero_add, Nat.add_zero, Nat.reduceAdd, List.cons_append, List.nil_append, List.eraseIdx_cons_zero, List.eraseIdx_cons_succ])
      refine W ?_
      rintro _ _ ⟨rfl, rfl⟩
      try (dsimp only [st, setL, AV.cells, List.set_cons_zero, List.set_cons_succ, List.drop_zero, List.drop_succ_cons, List.take_zero, List.take_succ_cons, Nat.zero_add, Nat.add_zero, Nat.reduceAdd, List.cons_append, List.nil_append, List.eraseIdx_cons_zero, List.eraseIdx_cons_succ])
      rw [hAs _ _ hx]
      refine W ?_
      refine LIL_sub (L' := .mp rm (mpI (A (i.toNat + 1))) :: L) (.cons_cons _ (.cons _ (.cons _ (.refl _)))) ?_
      refine IH (j - 1) _ _ (by omega) ⟨i + 1, exJ rfl, by rw [toNat_succ h0'], by omega, by omega⟩
    · have ei : i.toNat = c.length := by omega
      rw [ei, hAend]
      exact LRet_n fun h' HL => ⟨[], rfl, _, ⟨rfl, rfl⟩, HL⟩

theorem putB_keys {n : Int} (m : Int) : ∀ (es : List (Int × AV)), n ∈ (putB es m).map (·.1) ↔ n = m ∨ n ∈ es.map (·.1)
  | [] => by simp [putB, putI]
  | x :: es => by
    have ih := putB_keys (n := n) m es
    unfold putB at ih ⊢
    rw [putI]
    split
    · rename_i h; simp [h]
    · rw [List.map_cons, List.mem_cons, ih, List.map_cons, List.mem_cons]
      constructor
      · rintro (h | h | h) <;> simp [h]
      · rintro (h | h | h) <;> simp [h]

theorem putB_nodup (m : Int) : ∀ (es : List (Int × AV)), (es.map (·.1)).Nodup → ((putB es m).map (·.1)).Nodup
  | [], _ => by simp [putB, putI]
  | x :: es, h => by
    have ih := putB_nodup m es
    rw [List.map_cons, List.nodup_cons] at h
    have hk := putB_keys (n := x.1) m es
    unfold putB at ih hk ⊢
    rw [putI]
    split
    · rename_i e; rw [List.map_cons, List.nodup_cons]; rw [e] at h; exact h
    · rename_i e
      rw [List.map_cons, List.nodup_cons]
      refine ⟨fun hx => ?_, ih h.2⟩
      rcases hk.1 hx with h1 | h1
      · exact e h1
      · exact h.1 h1

theorem foldB_keys {n : Int} : ∀ (l : List Int) (es : List (Int × AV)), n ∈ (l.foldl putB es).map (·.1) ↔ n ∈ l ∨ n ∈ es.map (·.1)
  | [], es => by simp
  | m :: l, es => by
    rw [List.foldl_cons, foldB_keys l, putB_keys, List.mem_cons]
    constructor
    · rintro (h | h | h) <;> simp [h]
    · rintro ((h | h) | h) <;> simp [h]

theorem foldB_nodup : ∀ (l : List Int) (es : List (Int × AV)), (es.map (·.1)).Nodup → ((l.foldl putB es).map (·.1)).Nodup
  | [], es, h => h
  | m :: l, es, h => foldB_nodup l _ (putB_nodup m es h)

/-- The keys of the map, in whatever order they come up, sorted. -/
theorem keys_sorted (k : Nat) (out : List Int) (hn : out.Nodup) (hm : ∀ n, n ∈ out ↔ n ∈ ((allE k [1]).foldl putB []).map (·.1)) : (out.mergeSort fun x y => decide (x ≤ y)) = endsL k := by
  have hp := List.mergeSort_perm out (fun x y => decide (x ≤ y))
  have hs : (out.mergeSort fun x y => decide (x ≤ y)).Pairwise (· ≤ ·) := by
    have := List.pairwise_mergeSort (le := fun x y : Int => decide (x ≤ y)) (fun a b c h1 h2 => by simp at *; omega) (fun a b => by simp; omega) out
    exact this.imp (by intro a b h; simpa using h)
  have hnd : (out.mergeSort fun x y => decide (x ≤ y)).Nodup := hp.nodup_iff.2 hn
  refine rise_ext _ _ ?_ (endsL_sorted k) fun n => ?_
  · exact (hs.and hnd).imp fun h => by omega
  · rw [hp.mem_iff, hm, foldB_keys, endsL, foldP_mem]
    simp

def seR (len : Int) : List Int := if decide (0 ≤ len ∧ len ≤ 6) = true then endsL len.toNat else []

def seOk (len : Int) : Bool := decide (0 ≤ len ∧ len ≤ 6)

theorem pow_64 : ∀ k : Nat, k < 7 → (1 : Int) * 2 ^ k ≤ 64 := by decide

theorem specSE_ac (len : Int) (h : AH) : AC Try.prog 52 [.i .i64 len] h (fun r h' => ∃ M, TupI (seR len) (seOk len) r M ∧ Loq h h' M) := by
  refine e52 _ fun wf => ?_
  unfold c52
  refine LI_start wf ?_
  refine W ?_
  refine LS_c0' (fun h' HL wf => l1In_ac len 0 6 h') rfl rfl ?_
  try (dsimp only [st, setL, AV.cells, List.set_cons_zero, List.set_cons_succ, List.drop_zero, List.drop_succ_cons, List.take_zero, List.take_succ_cons, Nat.zero_add, Nat.add_zero, Nat.reduceAdd, List.cons_append, List.nil_append, List.eraseIdx_cons_zero, List.eraseIdx_cons_succ])
  refine W ?_
  (first | refine LS_gt rfl ?_ ?_ | refine LS_gf rfl ?_ ?_ | refine LI_cond rfl ?_ ?_) <;> intro hc <;> have hc' := hc <;> try simp only [decide_eq_true_eq, decide_eq_false_iff_not, Bool.not_eq_true', Bool.not_eq_false', Bool.not_eq_true, Bool.not_eq_false, beq_iff_eq, bne_iff_ne, beq_eq_false_iff_ne, bne_eq_false_iff_eq, Int.not_lt, Int.not_le, ge_iff_le, gt_iff_lt, not_and, ne_eq, Decidable.not_not] at hc'
  all_goals (try (dsimp only [st, setL, AV.cells, List.set_cons_zero, List.set_cons_succ, List.drop_zero, List.drop_succ_cons, List.take_zero, List.take_succ_cons, Nat.zero_add, Nat.add_zero, Nat.reduceAdd, List.cons_append, List.nil_append, List.eraseIdx_cons_zero, List.eraseIdx_cons_succ]))
  all_goals (refine W ?_)
  · have e : seOk len = false := nt hc
    rw [seR, show decide (0 ≤ len ∧ len ≤ 6) = false from e, if_neg (by simp), e]
    refine RET fun h' HL => ?_
    try dsimp only [oneA]
    exact TupI.none HL
  · have e : seOk len = true := nf hc
    have hn : 0 ≤ len ∧ len ≤ 6 := by simpa [seOk] using e
    rw [seR, show decide (0 ≤ len ∧ len ≤ 6) = true from e, if_pos rfl, e]
    refine LS_lt [1] rfl rfl (by decide) rfl rfl rfl rfl enI1 rfl rfl fun w1 lw1 sw1 => ?_
    try (dsimp only [st, setL, AV.cells, List.set_cons_zero, List.set_cons_succ, List.drop_zero, List.drop_succ_cons, List.take_zero, List.take_succ_cons, Nat.zero_add, Nat.add_zero, Nat.reduceAdd, List.cons_append, List.nil_append, List.eraseIdx_cons_zero, List.eraseIdx_cons_succ])
    refine W ?_
    refine LS_conv (L' := [.sl .ns 1 (([] : List Int).flatMap enI), .sl w1 1 (([1] : List Int).flatMap enI)]) (fun h' HL => loq_ns HL 1) ?_
    refine LS_cm (.refl _) (fun h' HL' wf => shEnds_ac len.toNat len [1] [] w1 .ns h h' _ (by omega) (by simp; omega) goodC_one (pow_64 _ (by omega)) .nil (by simp) (fun h2 HL2 => HL2.rdI 0 rfl enI1 (by decide)) HL') rfl rfl ?_
    try (dsimp only [st, setL, AV.cells, List.set_cons_zero, List.set_cons_succ, List.drop_zero, List.drop_succ_cons, List.take_zero, List.take_succ_cons, Nat.zero_add, Nat.add_zero, Nat.reduceAdd, List.cons_append, List.nil_append, List.eraseIdx_cons_zero, List.eraseIdx_cons_succ])
    refine W ?_
    rintro r _ ⟨lr, sr, rfl⟩
    try (dsimp only [st, setL, AV.cells, List.set_cons_zero, List.set_cons_succ, List.drop_zero, List.drop_succ_cons, List.take_zero, List.take_succ_cons, Nat.zero_add, Nat.add_zero, Nat.reduceAdd, List.cons_append, List.nil_append, List.eraseIdx_cons_zero, List.eraseIdx_cons_succ])
    refine W ?_
    refine RET fun h' HL => ?_
    try dsimp only [oneA]
    exact TupI.of (HL.ownI 0 rfl enI1 (by decide))

/-! ### The ends of star chains: the laws -/
theorem nodup_len : ∀ (n : Nat) (l : List Nat), l.Nodup → (∀ j ∈ l, j < n) → l.length ≤ n
  | 0, l, _, h => by
    cases l with
    | nil => simp
    | cons x l => have := h x (by simp); omega
  | n + 1, l, hn, h => by
    by_cases hm : n ∈ l
    · have h1 := List.length_erase_of_mem hm
      have h2 := nodup_len n (l.erase n) (hn.erase n) (fun j hj => by
        have h3 := (List.Nodup.mem_erase_iff hn).1 hj
        have := h j h3.2
        have := h3.1
        omega)
      omega
    · have := nodup_len n l hn (fun j hj => by
        have h1 := h j hj
        have : j ≠ n := fun e => hm (e ▸ hj)
        omega)
      omega

def keyA (K : List (Int × AV)) (j : Nat) : Int := ((K[j]?).map (·.1)).getD 0

theorem keyA_get {K : List (Int × AV)} {j : Nat} {e : Int × AV} (h : K[j]? = some e) : keyA K j = e.1 := by rw [keyA, h]; rfl

theorem keysA_ok {K : List (Int × AV)} {seen : List Nat} (hk : (K.map (·.1)).Nodup) (hn : seen.Nodup) (hlt : ∀ j ∈ seen, j < K.length) (hall : ∀ j, j < K.length → j ∈ seen) :
    (seen.map (keyA K)).Nodup ∧ ∀ n, n ∈ seen.map (keyA K) ↔ n ∈ K.map (·.1) := by
  have get : ∀ j, j < K.length → (K.map (·.1))[j]? = some (keyA K j) := by
    intro j hj
    rw [List.getElem?_map, List.getElem?_eq_getElem hj, keyA_get (List.getElem?_eq_getElem hj)]
    rfl
  refine ⟨?_, fun n => ⟨fun h => ?_, fun h => ?_⟩⟩
  · unfold List.Nodup
    rw [List.pairwise_map]
    refine List.Pairwise.imp_of_mem ?_ hn
    intro i j hi hj hne e
    have h1 := get i (hlt i hi)
    have h2 := get j (hlt j hj)
    rw [← e, ← h1] at h2
    exact hne ((List.getElem?_inj (by simpa using hlt i hi) hk).1 h2.symm)
  · obtain ⟨j, hj, rfl⟩ := List.mem_map.1 h
    exact List.mem_of_getElem? (get j (hlt j hj))
  · obtain ⟨j, hj⟩ := List.mem_iff_getElem?.1 h
    have hlj : j < K.length := by simpa using (List.getElem?_eq_some_iff.1 hj).1
    rw [get j hlj] at hj
    cases hj
    exact List.mem_map_of_mem (hall j hlj)

theorem endsK (k : Nat) (hk : k < 7) : (((allE k [1]).foldl putB []).map (·.1)).Nodup ∧ ((allE k [1]).foldl putB []).length ≤ 64 := by
  have h1 := foldB_nodup (allE k [1]) [] (by simp)
  refine ⟨h1, ?_⟩
  have h2 := keys_sorted k _ h1 (fun n => Iff.rfl)
  have h3 := (endsL_small k hk).2.2
  rw [← h2, List.length_mergeSort, List.length_map] at h3
  exact h3

theorem implSE_ac (len : Int) (h : AH) : AC Try.prog 53 [.i .i64 len] h (fun r h' => ∃ M, TupI (seR len) (seOk len) r M ∧ Loq h h' M) := by
  refine e53 _ fun wf => ?_
  unfold c53
  refine LI_start wf ?_
  refine W ?_
  refine LS_c0' (fun h' HL wf => in_ac len 0 6 h') rfl rfl ?_
  try (dsimp only [st, setL, AV.cells, List.set_cons_zero, List.set_cons_succ, List.drop_zero, List.drop_succ_cons, List.take_zero, List.take_succ_cons, Nat.zero_add, Nat.add_zero, Nat.reduceAdd, List.cons_append, List.nil_append, List.eraseIdx_cons_zero, List.eraseIdx_cons_succ])
  refine W ?_
  (first | refine LS_gt rfl ?_ ?_ | refine LS_gf rfl ?_ ?_ | refine LI_cond rfl ?_ ?_) <;> intro hc <;> have hc' := hc <;> try simp only [decide_eq_true_eq, decide_eq_false_iff_not, Bool.not_eq_true', Bool.not_eq_false', Bool.not_eq_true, Bool.not_eq_false, beq_iff_eq, bne_iff_ne, beq_eq_false_iff_ne, bne_eq_false_iff_eq, Int.not_lt, Int.not_le, ge_iff_le, gt_iff_lt, not_and, ne_eq, Decidable.not_not] at hc'
  all_goals (try (dsimp only [st, setL, AV.cells, List.set_cons_zero, List.set_cons_succ, List.drop_zero, List.drop_succ_cons, List.take_zero, List.take_succ_cons, Nat.zero_add, Nat.add_zero, Nat.reduceAdd, List.cons_append, List.nil_append, List.eraseIdx_cons_zero, List.eraseIdx_cons_succ]))
  all_goals (refine W ?_)
  · have e : seOk len = false := nt hc
    rw [seR, show decide (0 ≤ len ∧ len ≤ 6) = false from e, if_neg (by simp), e]
    refine RET fun h' HL => ?_
    try dsimp only [oneA]
    exact TupI.none HL
  · have e : seOk len = true := nf hc
    have hn : 0 ≤ len ∧ len ≤ 6 := by simpa [seOk] using e
    rw [seR, show decide (0 ≤ len ∧ len ≤ 6) = true from e, if_pos rfl, e]
    obtain ⟨hkn, hkl⟩ := endsK len.toNat (by omega)
    refine LS_mkM fun rm => ?_
    try (dsimp only [st, setL, AV.cells, List.set_cons_zero, List.set_cons_succ, List.drop_zero, List.drop_succ_cons, List.take_zero, List.take_succ_cons, Nat.zero_add, Nat.add_zero, Nat.reduceAdd, List.cons_append, List.nil_append, List.eraseIdx_cons_zero, List.eraseIdx_cons_succ])
    refine W ?_
    refine LS_lt ([] : List Int) rfl rfl (by decide) rfl rfl rfl rfl enI1 rfl rfl fun w0 lw0 sw0 => ?_
    try (dsimp only [st, setL, AV.cells, List.set_cons_zero, List.set_cons_succ, List.drop_zero, List.drop_succ_cons, List.take_zero, List.take_succ_cons, Nat.zero_add, Nat.add_zero, Nat.reduceAdd, List.cons_append, List.nil_append, List.eraseIdx_cons_zero, List.eraseIdx_cons_succ])
    refine W ?_
    refine LS_lt [1] rfl rfl (by decide) rfl rfl rfl rfl enI1 rfl rfl fun w1 lw1 sw1 => ?_
    try (dsimp only [st, setL, AV.cells, List.set_cons_zero, List.set_cons_succ, List.drop_zero, List.drop_succ_cons, List.take_zero, List.take_succ_cons, Nat.zero_add, Nat.add_zero, Nat.reduceAdd, List.cons_append, List.nil_append, List.eraseIdx_cons_zero, List.eraseIdx_cons_succ])
    refine W ?_
    refine LS_cm (List.perm_middle (l₁ := [_, _])) (fun h' HL' wf => ends_ac len.toNat len [1] [] w1 rm h h' [.sl w1 1 (([1] : List Int).flatMap enI), .sl w0 1 (([] : List Int).flatMap enI)] (by omega) (by simp; omega) goodC_one (pow_64 _ (by omega)) (fun h2 HL2 => HL2.rdI 0 rfl enI1 (by decide)) HL') rfl rfl ?_
    rintro _ _ ⟨rfl, rfl⟩
    try (dsimp only [st, setL, AV.cells, List.set_cons_zero, List.set_cons_succ, List.drop_zero, List.drop_succ_cons, List.take_zero, List.take_succ_cons, Nat.zero_add, Nat.add_zero, Nat.reduceAdd, List.cons_append, List.nil_append, List.eraseIdx_cons_zero, List.eraseIdx_cons_succ])
    have hks : ∀ seen : List Nat, seen.Nodup → (∀ j ∈ seen, j < ((allE len.toNat [1]).foldl putB []).length) → (∀ j, j < ((allE len.toNat [1]).foldl putB []).length → j ∈ seen) → ((seen.map (keyA ((allE len.toNat [1]).foldl putB []))).mergeSort fun x y => decide (x ≤ y)) = endsL len.toNat := by
      intro seen h1 h2 h3
      obtain ⟨g1, g2⟩ := keysA_ok hkn h1 h2 h3
      exact keys_sorted len.toNat _ g1 g2
    generalize (allE len.toNat [1]).foldl putB [] = K at hkn hkl hks ⊢
    refine LS_sub (L' := [.mp rm (mpI K), .sl w0 1 (([] : List Int).flatMap enI)]) (.cons_cons _ (.cons _ (.refl _))) ?_
    refine LS_nil ?_
    refine LThen_n ?_
    refine LI_seq ?_
    refine LI_rng (x := .tmp 4) (r := rm) (i := 0) (es := K) (fun b seen a L' => ∃ (out : AV), (∃ r : Nat → AV, a = [r 0, r 1, r 2, r 3, .m rm, out, r 6, r 7, r 8, r 9, r 10, r 11, r 12, r 13, r 14, r 15, r 16, .p b 0, r 18, r 19, r 20, r 21, r 22, r 23, r 24, r 25, r 26, r 27, r 28]) ∧ L' = [.mp rm (mpI K), .sl out 1 ((seen.map (keyA K)).flatMap enI)] ∧ lenA out = some seen.length ∧ out.sc = true ∧ seen.Nodup ∧ ∀ j ∈ seen, j < K.length) 29 Try.underlying69 rfl rfl (by decide) (by decide) (by decide) rfl (fun b => ⟨w0, exJ rfl, rfl, lw0, sw0, .nil, by simp⟩) ?_ ?_ ?_
    · rintro b seen _ _ ⟨out, ⟨r, rfl⟩, rfl, _⟩
      exact ⟨rfl, rfl, 0, rfl⟩
    · rintro b seen _ _ ⟨out, ⟨r, rfl⟩, rfl, lo, so, _⟩ hnd hlt hall
      refine LThen_n ?_
      try (dsimp only [st, setL, AV.cells, List.set_cons_zero, List.set_cons_succ, List.drop_zero, List.drop_succ_cons, List.take_zero, List.take_succ_cons, Nat.zero_add, Nat.add_zero, Nat.reduceAdd, List.cons_append, List.nil_append, List.eraseIdx_cons_zero, List.eraseIdx_cons_succ])
      refine W ?_
      have hsl := nodup_len _ seen hnd hlt
      refine LS_cm (.swap _ _ _) (fun h' HL' wf => slSort_ac HL' (by simp; omega)) rfl rfl ?_
      try (dsimp only [st, setL, AV.cells, List.set_cons_zero, List.set_cons_succ, List.drop_zero, List.drop_succ_cons, List.take_zero, List.take_succ_cons, Nat.zero_add, Nat.add_zero, Nat.reduceAdd, List.cons_append, List.nil_append, List.eraseIdx_cons_zero, List.eraseIdx_cons_succ])
      refine W ?_
      rintro _ _ ⟨rfl, rfl⟩
      try (dsimp only [st, setL, AV.cells, List.set_cons_zero, List.set_cons_succ, List.drop_zero, List.drop_succ_cons, List.take_zero, List.take_succ_cons, Nat.zero_add, Nat.add_zero, Nat.reduceAdd, List.cons_append, List.nil_append, List.eraseIdx_cons_zero, List.eraseIdx_cons_succ])
      rw [hks seen hnd hlt hall]
      refine W ?_
      refine RET fun h' HL => ?_
      try dsimp only [oneA]
      exact TupI.of (HL.ownI 0 rfl enI1 (by decide))
    · rintro b seen _ _ j e ⟨out, ⟨r, rfl⟩, rfl, lo, so, hnd, hlt⟩ hj he
      have hsl := nodup_len _ seen hnd hlt
      have hjl := (List.getElem?_eq_some_iff.1 he).1
      have hke := keyA_get he
      try (dsimp only [st, setL, AV.cells, List.set_cons_zero, List.set_cons_succ, List.drop_zero, List.drop_succ_cons, List.take_zero, List.take_succ_cons, Nat.zero_add, Nat.add_zero, Nat.reduceAdd, List.cons_append, List.nil_append, List.eraseIdx_cons_zero, List.eraseIdx_cons_succ])
      refine LI_reg ?_
      refine W ?_
      refine LS_lt [e.1] rfl rfl (by decide) rfl rfl rfl rfl enI1 rfl rfl fun w2 lw2 sw2 => ?_
      try (dsimp only [st, setL, AV.cells, List.set_cons_zero, List.set_cons_succ, List.drop_zero, List.drop_succ_cons, List.take_zero, List.take_succ_cons, Nat.zero_add, Nat.add_zero, Nat.reduceAdd, List.cons_append, List.nil_append, List.eraseIdx_cons_zero, List.eraseIdx_cons_succ])
      refine W ?_
      refine LS_ap 2 rfl (fun h' HL' => HL'.rdI 0 rfl enI1 (by decide)) enI1 (by decide) (by simp) (by simp; omega) (by simp; omega) rfl rfl rfl fun w3 lw3 sw3 => ?_
      try (dsimp only [st, setL, AV.cells, List.set_cons_zero, List.set_cons_succ, List.drop_zero, List.drop_succ_cons, List.take_zero, List.take_succ_cons, Nat.zero_add, Nat.add_zero, Nat.reduceAdd, List.cons_append, List.nil_append, List.eraseIdx_cons_zero, List.eraseIdx_cons_succ])
      refine LS_drop 1 ?_
      refine W ?_
      refine ⟨rfl, w3, exJ rfl, ?_, ?_, sw3, ?_, ?_⟩
      · rw [List.map_append, List.map_cons, List.map_nil, hke]
        rfl
      · simpa using lw3
      · rw [List.nodup_append]
        exact ⟨hnd, by simp, fun x hx y hy => by rw [List.mem_singleton.1 hy]; exact fun e => hj (e ▸ hx)⟩
      · intro i hi
        rcases List.mem_append.1 hi with hi | hi
        · exact hlt i hi
        · rw [List.mem_singleton.1 hi]; exact hjl

theorem seR_len {len : Int} : (seR len).length ≤ 1048576 := by
  unfold seR
  split
  · rename_i e
    have hn : 0 ≤ len ∧ len ≤ 6 := by simpa using e
    have := (endsL_small len.toNat (by omega)).2.2
    omega
  · simp

/-! ### The law of the ends of star chains -/
theorem DrawStarEnds_ac (c1 : List Int) (v1 : AV) (h : AH) (hcv : RdG 1 enU h v1 c1) (hb : ∀ x ∈ c1, 0 ≤ x ∧ x ≤ 255) :
    AC Try.prog 54 [v1] h (fun r h' => (∃ x, r = .i .i64 x ∧ (-1 ≤ x ∧ x ≤ 7)) ∧ h.le h') := by
  refine e54 _ fun wf => ?_
  unfold c54
  refine LI_start wf ?_
  refine W ?_
  refine LS_bxn rfl (sc_cons (rd_sc hcv) rfl) fun bc => ?_
  try (dsimp only [st, setL, AV.cells, List.set_cons_zero, List.set_cons_succ, List.drop_zero, List.drop_succ_cons, List.take_zero, List.take_succ_cons, Nat.zero_add, Nat.add_zero, Nat.reduceAdd, List.cons_append, List.nil_append, List.eraseIdx_cons_zero, List.eraseIdx_cons_succ])
  refine W ?_
  refine LS_lt [0, 1, 2, 3, 4, 5, 6, 7, -1] rfl rfl (by decide) rfl rfl rfl rfl enI1 rfl rfl fun w lw sw => ?_
  try (dsimp only [st, setL, AV.cells, List.set_cons_zero, List.set_cons_succ, List.drop_zero, List.drop_succ_cons, List.take_zero, List.take_succ_cons, Nat.zero_add, Nat.add_zero, Nat.reduceAdd, List.cons_append, List.nil_append, List.eraseIdx_cons_zero, List.eraseIdx_cons_succ])
  refine W ?_
  refine LS_rot 1 rfl ?_
  refine LS_cm (.refl _) (fun h' HL wf => among_ac [0, 1, 2, 3, 4, 5, 6, 7, -1] w _ _ _ _ _ _ h' _ HL (fun h' HL => HL.rdI 0 rfl enI1 (by decide)) (by decide) hcv hb (by omega) (by omega)) rfl rfl ?_
  rintro _ _ ⟨x, ct1, sd1, rfl, hx, hct1, rfl⟩
  try (dsimp only [st, setL, AV.cells, List.set_cons_zero, List.set_cons_succ, List.drop_zero, List.drop_succ_cons, List.take_zero, List.take_succ_cons, Nat.zero_add, Nat.add_zero, Nat.reduceAdd, List.cons_append, List.nil_append, List.eraseIdx_cons_zero, List.eraseIdx_cons_succ])
  refine W ?_
  have hx2 : -1 ≤ x ∧ x ≤ 7 := by
    have : ∀ y ∈ ([0, 1, 2, 3, 4, 5, 6, 7, -1] : List Int), -1 ≤ y ∧ y ≤ 7 := by decide
    exact this x hx
  refine RET fun h' HL => ?_
  try dsimp only [oneA]
  exact ⟨⟨x, rfl, hx2⟩, HL.le⟩

theorem any_ends {k : Nat} {n : Int} : (endsL k).any (fun y => y == n) = decide (((allS n k [1]).length : Int) > 0) := by
  have h := endsL_mem (n := n) k
  by_cases hn : n ∈ endsL k
  · have h1 : 0 < (allS n k [1]).length := List.length_pos_iff.2 (h.1 hn)
    rw [decide_eq_true (by omega), List.any_eq_true]
    exact ⟨n, hn, by simp⟩
  · have h1 : (allS n k [1]) = [] := Classical.byContradiction fun e => hn (h.2 e)
    rw [h1, List.any_eq_false.2 (fun y hy => by simp; exact fun e => hn (e ▸ hy))]
    rfl

theorem ends_get {k : Nat} (hk : k < 7) : ∃ e : Nat, e < 64 ∧ (endsL k).length = e + 1 ∧ (endsL k)[0]? = some ((k : Int) + 1) ∧ (endsL k)[e]? = some (2 ^ k : Int) := by
  obtain ⟨h1, h2, h3⟩ := endsL_small k hk
  have hne : endsL k ≠ [] := fun e => by rw [e] at h1; cases h1
  have hl := List.length_pos_iff.2 hne
  refine ⟨(endsL k).length - 1, by omega, by omega, ?_, ?_⟩
  · rw [← List.head?_eq_getElem?]; exact h1
  · rw [← List.getLast?_eq_getElem?]; exact h2

theorem lawFnStarEnds_ac (c1 : List Int) (v1 : AV) (c2 : List Int) (v2 : AV) (h : AH) (hR1 : RdG 1 enU h v1 c1) (w1 : ∀ n ∈ c1, (Lit.int .u8 n).wf = true) (m1 : c1.length ≤ maxLen) (hR2 : RdG 1 enU h v2 c2) (w2 : ∀ n ∈ c2, (Lit.int .u8 n).wf = true) (m2 : c2.length ≤ maxLen) :
    AC Try.prog 14 [v1, v2] h (fun r h' => r = .b true) := by
  have b1 := bytes_in w1
  have b2 := bytes_in w2
  have q1 : c1.length ≤ 9223372036854775807 := m1
  have q2 : c2.length ≤ 9223372036854775807 := m2
  refine e14 _ _ fun wf => ?_
  unfold c14
  refine LI_start wf ?_
  refine W ?_
  refine LS_c0 (fun h' HL wf => big_ac c1 c2 v1 v2 h' (hR1.le HL.le) (hR2.le HL.le) q1 q2) rfl rfl ?_
  try (dsimp only [st, setL, AV.cells, List.set_cons_zero, List.set_cons_succ, List.drop_zero, List.drop_succ_cons, List.take_zero, List.take_succ_cons, Nat.zero_add, Nat.add_zero, Nat.reduceAdd, List.cons_append, List.nil_append, List.eraseIdx_cons_zero, List.eraseIdx_cons_succ])
  refine W ?_
  (first | refine LS_gt rfl ?_ ?_ | refine LS_gf rfl ?_ ?_ | refine LI_cond rfl ?_ ?_) <;> intro hc <;> have hc' := hc <;> try simp only [decide_eq_true_eq, decide_eq_false_iff_not, Bool.not_eq_true', Bool.not_eq_false', Bool.not_eq_true, Bool.not_eq_false, beq_iff_eq, bne_iff_ne, beq_eq_false_iff_ne, bne_eq_false_iff_eq, Int.not_lt, Int.not_le, ge_iff_le, gt_iff_lt, not_and, ne_eq, Decidable.not_not] at hc'
  all_goals (try (dsimp only [st, setL, AV.cells, List.set_cons_zero, List.set_cons_succ, List.drop_zero, List.drop_succ_cons, List.take_zero, List.take_succ_cons, Nat.zero_add, Nat.add_zero, Nat.reduceAdd, List.cons_append, List.nil_append, List.eraseIdx_cons_zero, List.eraseIdx_cons_succ]))
  all_goals (refine W ?_)
  · refine RET fun h' HL => ?_
    try dsimp only [oneA]
  · have hcb := big_f hc
    refine LS_cq (fun h' HL wf => DrawStarEnds_ac c1 v1 h' (hR1.le HL.le) b1) rfl rfl ?_
    try (dsimp only [st, setL, AV.cells, List.set_cons_zero, List.set_cons_succ, List.drop_zero, List.drop_succ_cons, List.take_zero, List.take_succ_cons, Nat.zero_add, Nat.add_zero, Nat.reduceAdd, List.cons_append, List.nil_append, List.eraseIdx_cons_zero, List.eraseIdx_cons_succ])
    refine W ?_
    rintro _ ⟨x, rfl, hx⟩
    try (dsimp only [st, setL, AV.cells, List.set_cons_zero, List.set_cons_succ, List.drop_zero, List.drop_succ_cons, List.take_zero, List.take_succ_cons, Nat.zero_add, Nat.add_zero, Nat.reduceAdd, List.cons_append, List.nil_append, List.eraseIdx_cons_zero, List.eraseIdx_cons_succ])
    refine W ?_
    have hxl : (seR x).length ≤ 1048576 := seR_len
    have hti := fun (h' : AH) => implSE_ac x h'
    have hts := fun (h' : AH) => specSE_ac x h'
    refine LS_c1 (fun h' HL wf => hti h') rfl rfl ?_
    try (dsimp only [st, setL, AV.cells, List.set_cons_zero, List.set_cons_succ, List.drop_zero, List.drop_succ_cons, List.take_zero, List.take_succ_cons, Nat.zero_add, Nat.add_zero, Nat.reduceAdd, List.cons_append, List.nil_append, List.eraseIdx_cons_zero, List.eraseIdx_cons_succ])
    refine W ?_
    rintro _ _ ⟨wl, rfl, lwl, swl, rfl⟩
    try (dsimp only [st, setL, AV.cells, List.set_cons_zero, List.set_cons_succ, List.drop_zero, List.drop_succ_cons, List.take_zero, List.take_succ_cons, Nat.zero_add, Nat.add_zero, Nat.reduceAdd, List.cons_append, List.nil_append, List.eraseIdx_cons_zero, List.eraseIdx_cons_succ])
    refine W ?_
    refine LS_c1 (fun h' HL wf => hts h') rfl rfl ?_
    try (dsimp only [st, setL, AV.cells, List.set_cons_zero, List.set_cons_succ, List.drop_zero, List.drop_succ_cons, List.take_zero, List.take_succ_cons, Nat.zero_add, Nat.add_zero, Nat.reduceAdd, List.cons_append, List.nil_append, List.eraseIdx_cons_zero, List.eraseIdx_cons_succ])
    refine W ?_
    rintro _ _ ⟨wr, rfl, lwr, swr, rfl⟩
    try (dsimp only [st, setL, AV.cells, List.set_cons_zero, List.set_cons_succ, List.drop_zero, List.drop_succ_cons, List.take_zero, List.take_succ_cons, Nat.zero_add, Nat.add_zero, Nat.reduceAdd, List.cons_append, List.nil_append, List.eraseIdx_cons_zero, List.eraseIdx_cons_succ])
    refine W ?_
    first | (refine LS_gyH rfl (by simp) ?_; intro hg) | (refine LI_cond_tH rfl (by simp) ?_; intro hg)
    refine W ?_
    refine LS_c0 (fun h' HL wf => rSame_ac (seR x) wl wr h' (HL.rdI 1 rfl enI1 (by decide)) (HL.rdI 0 rfl enI1 (by decide)) (by omega)) rfl rfl ?_
    try (dsimp only [st, setL, AV.cells, List.set_cons_zero, List.set_cons_succ, List.drop_zero, List.drop_succ_cons, List.take_zero, List.take_succ_cons, Nat.zero_add, Nat.add_zero, Nat.reduceAdd, List.cons_append, List.nil_append, List.eraseIdx_cons_zero, List.eraseIdx_cons_succ])
    refine W ?_
    cases hok : seOk x
    · refine W ?_
      refine RET fun h' HL => ?_
      try dsimp only [oneA]
    · have hn : 0 ≤ x ∧ x ≤ 6 := by simpa [seOk] using hok
      have er : seR x = endsL x.toNat := by rw [seR, show decide (0 ≤ x ∧ x ≤ 6) = true from hok, if_pos rfl]
      obtain ⟨e, he, hel, he0, he1⟩ := ends_get (k := x.toNat) (by omega)
      rw [er] at lwl lwr ⊢
      refine W ?_
      refine LS_cq (fun h' HL wf => numberOf_ac c2 v2 h' (hR2.le HL.le) hcb.2 b2) rfl rfl ?_
      try (dsimp only [st, setL, AV.cells, List.set_cons_zero, List.set_cons_succ, List.drop_zero, List.drop_succ_cons, List.take_zero, List.take_succ_cons, Nat.zero_add, Nat.add_zero, Nat.reduceAdd, List.cons_append, List.nil_append, List.eraseIdx_cons_zero, List.eraseIdx_cons_succ])
      refine W ?_
      rintro _ ⟨kk, rfl, hk0, hk1⟩
      try (dsimp only [st, setL, AV.cells, List.set_cons_zero, List.set_cons_succ, List.drop_zero, List.drop_succ_cons, List.take_zero, List.take_succ_cons, Nat.zero_add, Nat.add_zero, Nat.reduceAdd, List.cons_append, List.nil_append, List.eraseIdx_cons_zero, List.eraseIdx_cons_succ])
      refine W ?_
      refine LS_v (OpV_rem rfl rfl (by omega)) ?_
      try (dsimp only [st, setL, AV.cells, List.set_cons_zero, List.set_cons_succ, List.drop_zero, List.drop_succ_cons, List.take_zero, List.take_succ_cons, Nat.zero_add, Nat.add_zero, Nat.reduceAdd, List.cons_append, List.nil_append, List.eraseIdx_cons_zero, List.eraseIdx_cons_succ])
      refine W ?_
      obtain ⟨m, hm, hm0, hm1⟩ : ∃ m, kk.tmod 100 = m ∧ 0 ≤ m ∧ m ≤ 99 := ⟨_, rfl, by rw [Int.tmod_eq_emod_of_nonneg hk0]; omega, by rw [Int.tmod_eq_emod_of_nonneg hk0]; omega⟩
      rw [hm]
      refine W ?_
      have hco : cOkS (1 + m) x = true := by rw [cOkS, decide_eq_true (show 1 ≤ 1 + m ∧ 1 + m ≤ 100 by omega), decide_eq_true (show 0 ≤ x ∧ x ≤ 8 by omega)]; rfl
      have hct := fun (h' : AH) => count_ac (1 + m) x h'
      rw [hco, if_pos rfl] at hct
      have hany := any_ends (k := x.toNat) (n := 1 + m)
      generalize ((allS (1 + m) x.toNat [1]).length : Int) = cn at hct hany
      refine LS_c0 (fun h' HL wf => hct h') rfl rfl ?_
      try (dsimp only [st, setL, AV.cells, List.set_cons_zero, List.set_cons_succ, List.drop_zero, List.drop_succ_cons, List.take_zero, List.take_succ_cons, Nat.zero_add, Nat.add_zero, Nat.reduceAdd, List.cons_append, List.nil_append, List.eraseIdx_cons_zero, List.eraseIdx_cons_succ])
      refine W ?_
      refine LS_c0 (fun h' HL wf => by have H := rHas_ac (endsL x.toNat) wl (1 + m) h' (HL.rdI 1 rfl enI1 (by decide)) (by omega); rw [hany] at H; exact H) rfl rfl ?_
      try (dsimp only [st, setL, AV.cells, List.set_cons_zero, List.set_cons_succ, List.drop_zero, List.drop_succ_cons, List.take_zero, List.take_succ_cons, Nat.zero_add, Nat.add_zero, Nat.reduceAdd, List.cons_append, List.nil_append, List.eraseIdx_cons_zero, List.eraseIdx_cons_succ])
      refine W ?_
      first | (refine LS_gtnH rfl (by simp) ?_; intro hg; try (dsimp only [st, setL, AV.cells, List.set_cons_zero, List.set_cons_succ, List.drop_zero, List.drop_succ_cons, List.take_zero, List.take_succ_cons, Nat.zero_add, Nat.add_zero, Nat.reduceAdd, List.cons_append, List.nil_append, List.eraseIdx_cons_zero, List.eraseIdx_cons_succ])) | (refine LS_gfnH rfl (by simp) ?_; intro hg; try (dsimp only [st, setL, AV.cells, List.set_cons_zero, List.set_cons_succ, List.drop_zero, List.drop_succ_cons, List.take_zero, List.take_succ_cons, Nat.zero_add, Nat.add_zero, Nat.reduceAdd, List.cons_append, List.nil_append, List.eraseIdx_cons_zero, List.eraseIdx_cons_succ])) | (refine LI_cond_fH rfl (by simp) ?_; intro hg)
      refine W ?_
      refine dz14_0 ?_
      refine WX ?_
      refine W ?_
      rw [show decide (((endsL x.toNat).length : Int) > 0) = true from decide_eq_true (by omega)]
      refine WX ?_
      refine LX_ix (y := x + 1) (fun h' HL => HL.rdI 1 rfl enI1 (by decide)) enI1 (by rw [show (0 : Int).toNat = 0 from rfl, he0]; congr 1; omega) (by omega) rfl rfl (fun gg want e => by cases e; rfl) fun q1 o1 hrow1 => ?_
      try (dsimp only [st, setL, AV.cells, List.set_cons_zero, List.set_cons_succ, List.drop_zero, List.drop_succ_cons, List.take_zero, List.take_succ_cons, Nat.zero_add, Nat.add_zero, Nat.reduceAdd, List.cons_append, List.nil_append, List.eraseIdx_cons_zero, List.eraseIdx_cons_succ])
      refine WX ?_
      refine W ?_
      first | rw [beq_self_eq_true] | rw [show decide (x + 1 = x + 1) = true from decide_eq_true rfl]
      refine WX ?_
      refine LX_ix (y := 2 ^ x.toNat) (fun h' HL => HL.rdI 1 rfl enI1 (by decide)) enI1 (by rw [show (((endsL x.toNat).length : Int) - 1).toNat = e by omega]; exact he1) (by omega) rfl rfl (fun gg want e => by cases e; rfl) fun q2 o2 hrow2 => ?_
      try (dsimp only [st, setL, AV.cells, List.set_cons_zero, List.set_cons_succ, List.drop_zero, List.drop_succ_cons, List.take_zero, List.take_succ_cons, Nat.zero_add, Nat.add_zero, Nat.reduceAdd, List.cons_append, List.nil_append, List.eraseIdx_cons_zero, List.eraseIdx_cons_succ])
      refine WX ?_
      refine W ?_
      refine LX_v (fun gg want e => by cases e; rfl) (OpV_shl rfl rfl (by omega)) ?_
      rw [shl_small' (m := 1) (z := x) (k := x.toNat) (by omega) (by omega) (by omega) (by omega), Int.one_mul]
      try (dsimp only [st, setL, AV.cells, List.set_cons_zero, List.set_cons_succ, List.drop_zero, List.drop_succ_cons, List.take_zero, List.take_succ_cons, Nat.zero_add, Nat.add_zero, Nat.reduceAdd, List.cons_append, List.nil_append, List.eraseIdx_cons_zero, List.eraseIdx_cons_succ])
      refine WX ?_
      refine W ?_
      refine RET fun h' HL => ?_
      try dsimp only [oneA]
      simp

def RowsRd (h : AH) (us : List AV) (ll : List (List Int)) : Prop := us.length = ll.length ∧ ∀ (i : Nat) (u : AV) (l : List Int), us[i]? = some u → ll[i]? = some l → Rd h u l

theorem RowsRd.at_ {h : AH} {us : List AV} {ll : List (List Int)} (H : RowsRd h us ll) {i : Nat} {l : List Int} (hl : ll[i]? = some l) : ∃ u, us[i]? = some u ∧ Rd h u l := by
  have hi : i < us.length := by rw [H.1]; exact (List.getElem?_eq_some_iff.1 hl).1
  exact ⟨us[i], List.getElem?_eq_getElem hi, H.2 i _ l (List.getElem?_eq_getElem hi) hl⟩

/-- Lists of lists handed back, and whether. -/
def TupSS (ll : List (List Int)) (ok : Bool) (r : AV) (M : List It) : Prop := ∃ w us, r = .tup [w, .b ok] ∧ us.length = ll.length ∧ lenA w = some ll.length ∧ w.sc = true ∧ M = ssI w us ll

theorem TupSS.none {h0 h : AH} {L : List It} (H : Loq h0 h L) : ∃ M, TupSS [] false (.tup [.ns, .b false]) M ∧ Loq h0 h M := ⟨_, ⟨.ns, [], rfl, rfl, rfl, rfl, rfl⟩, loq_ns (H.sub (List.nil_sublist _)) 1⟩
end Go.Proofs.Ytlgjakoeogpjlaa
