/- The walk of the law FnShortestStars, part 1: what each function that it reaches computes. -/
import Derived.Test.YtlgjakoeogpjlaaCFnShortestStars
namespace Go.Proofs.Ytlgjakoeogpjlaa
open Go.AL
set_option linter.unusedVariables false
set_option linter.unusedSimpArgs false
set_option maxRecDepth 100000
set_option maxHeartbeats 1000000
attribute [local irreducible] AS AI AIL OpR AC CW AWP ALoop LS LI LIL LThen LLoop LBlk LRet Lh AX OpV OpF

theorem nf {b : Bool} (h : (!b) = false) : b = true := by cases b <;> simp_all

theorem nt {b : Bool} (h : (!b) = true) : b = false := by cases b <;> simp_all

theorem in_ac (n lo hi : Int) (h : AH) : AC Try.prog 65 [.i .i64 n, .i .i64 lo, .i .i64 hi] h (fun v h' => v = .b (decide (lo ≤ n ∧ n ≤ hi)) ∧ h = h') := by
  refine e65 _ _ _ fun wf => ?_
  unfold c65
  repeat (first | refine AI_seqk fun K hK => ?_ | refine AI_reg ?_ | ((first | refine wmv rfl ?_ | refine wag rfl ?_ | refine war _ rfl rfl rfl (by omega) (by omega) ?_ | refine wbn rfl rfl rfl ?_ | refine wnt rfl ?_ | refine wex rfl rfl ?_ | refine wpt rfl (by first | assumption | with_reducible rfl) rfl ?_ | refine wpf rfl (by first | assumption | with_reducible rfl) rfl ?_ | refine wpb rfl rfl rfl ?_ | refine wmf rfl ?_ | refine wnc rfl ?_ | refine wbq Try.underlying4 rfl rfl _ (.inr ⟨rfl, rfl⟩) ?_ | refine wbq Try.underlying4 rfl rfl _ (.inl ⟨rfl, rfl⟩) ?_); try dsimp only [st, List.set_cons_zero, List.set_cons_succ]) | ((first | refine AS_nil ?_ | refine AI_skip ?_ | refine AI_exit ?_); try simp only [AThen, ABlk, reduceIte, reduceCtorEq]) | ((first | refine hK _ _ ?_ | ((first | clear hK K | clear IH hK K); refine hK _ _ ?_) | ((first | clear hK K | clear IH hK K); (first | clear hK K | clear IH hK K); refine hK _ _ ?_) | ((first | clear hK K | clear IH hK K); (first | clear hK K | clear IH hK K); (first | clear hK K | clear IH hK K); refine hK _ _ ?_)); try (first | clear hK K | clear IH hK K)) | refine AI_cond_t rfl (by first | assumption | with_reducible rfl) ?_ | refine AI_cond_f rfl (by first | assumption | with_reducible rfl) ?_ | refine AS_gy rfl (by first | assumption | with_reducible rfl) ?_ | refine AS_gtn rfl (by first | assumption | with_reducible rfl) ?_ | refine AS_gfn rfl (by first | assumption | with_reducible rfl) ?_ | refine AI_block (AI_loop ?_) | refine AI_block ?_ | refine AI_ret ⟨_, rfl, ?_⟩)
  (first | refine AS_gt rfl ?_ ?_ | refine AS_gf rfl ?_ ?_ | refine AI_cond rfl ?_ ?_) <;> intro hc <;> have hc' := hc <;> try simp only [decide_eq_true_eq, decide_eq_false_iff_not, Bool.not_eq_true', Bool.not_eq_false', Bool.not_eq_true, Bool.not_eq_false, beq_iff_eq, bne_iff_ne, beq_eq_false_iff_ne, bne_eq_false_iff_eq, Int.not_lt, Int.not_le, ge_iff_le, gt_iff_lt, not_and, ne_eq, Decidable.not_not] at hc'
  all_goals
    repeat (first | refine AI_seqk fun K hK => ?_ | refine AI_reg ?_ | ((first | refine wmv rfl ?_ | refine wag rfl ?_ | refine war _ rfl rfl rfl (by omega) (by omega) ?_ | refine wbn rfl rfl rfl ?_ | refine wnt rfl ?_ | refine wex rfl rfl ?_ | refine wpt rfl (by first | assumption | with_reducible rfl) rfl ?_ | refine wpf rfl (by first | assumption | with_reducible rfl) rfl ?_ | refine wpb rfl rfl rfl ?_ | refine wmf rfl ?_ | refine wnc rfl ?_ | refine wbq Try.underlying4 rfl rfl _ (.inr ⟨rfl, rfl⟩) ?_ | refine wbq Try.underlying4 rfl rfl _ (.inl ⟨rfl, rfl⟩) ?_); try dsimp only [st, List.set_cons_zero, List.set_cons_succ]) | ((first | refine AS_nil ?_ | refine AI_skip ?_ | refine AI_exit ?_); try simp only [AThen, ABlk, reduceIte, reduceCtorEq]) | ((first | refine hK _ _ ?_ | ((first | clear hK K | clear IH hK K); refine hK _ _ ?_) | ((first | clear hK K | clear IH hK K); (first | clear hK K | clear IH hK K); refine hK _ _ ?_) | ((first | clear hK K | clear IH hK K); (first | clear hK K | clear IH hK K); (first | clear hK K | clear IH hK K); refine hK _ _ ?_)); try (first | clear hK K | clear IH hK K)) | refine AI_cond_t rfl (by first | assumption | with_reducible rfl) ?_ | refine AI_cond_f rfl (by first | assumption | with_reducible rfl) ?_ | refine AS_gy rfl (by first | assumption | with_reducible rfl) ?_ | refine AS_gtn rfl (by first | assumption | with_reducible rfl) ?_ | refine AS_gfn rfl (by first | assumption | with_reducible rfl) ?_ | refine AI_block (AI_loop ?_) | refine AI_block ?_ | refine AI_ret ⟨_, rfl, ?_⟩)
  · exact ⟨by simp [hc', oneA], rfl⟩
  · exact ⟨by first | (simp [oneA, hc']; done) | (simp [oneA, hc']; omega), rfl⟩

theorem l1In_ac (n lo hi : Int) (h : AH) : AC Try.prog 62 [.i .i64 n, .i .i64 lo, .i .i64 hi] h (fun v h' => v = .b (decide (lo ≤ n ∧ n ≤ hi)) ∧ h = h') := by
  refine e62 _ _ _ fun wf => ?_
  unfold c62
  repeat (first | refine AI_seqk fun K hK => ?_ | refine AI_reg ?_ | ((first | refine wmv rfl ?_ | refine wag rfl ?_ | refine war _ rfl rfl rfl (by omega) (by omega) ?_ | refine wbn rfl rfl rfl ?_ | refine wnt rfl ?_ | refine wex rfl rfl ?_ | refine wpt rfl (by first | assumption | with_reducible rfl) rfl ?_ | refine wpf rfl (by first | assumption | with_reducible rfl) rfl ?_ | refine wpb rfl rfl rfl ?_ | refine wmf rfl ?_ | refine wnc rfl ?_ | refine wbq Try.underlying4 rfl rfl _ (.inr ⟨rfl, rfl⟩) ?_ | refine wbq Try.underlying4 rfl rfl _ (.inl ⟨rfl, rfl⟩) ?_); try dsimp only [st, List.set_cons_zero, List.set_cons_succ]) | ((first | refine AS_nil ?_ | refine AI_skip ?_ | refine AI_exit ?_); try simp only [AThen, ABlk, reduceIte, reduceCtorEq]) | ((first | refine hK _ _ ?_ | ((first | clear hK K | clear IH hK K); refine hK _ _ ?_) | ((first | clear hK K | clear IH hK K); (first | clear hK K | clear IH hK K); refine hK _ _ ?_) | ((first | clear hK K | clear IH hK K); (first | clear hK K | clear IH hK K); (first | clear hK K | clear IH hK K); refine hK _ _ ?_)); try (first | clear hK K | clear IH hK K)) | refine AI_cond_t rfl (by first | assumption | with_reducible rfl) ?_ | refine AI_cond_f rfl (by first | assumption | with_reducible rfl) ?_ | refine AS_gy rfl (by first | assumption | with_reducible rfl) ?_ | refine AS_gtn rfl (by first | assumption | with_reducible rfl) ?_ | refine AS_gfn rfl (by first | assumption | with_reducible rfl) ?_ | refine AI_block (AI_loop ?_) | refine AI_block ?_ | refine AI_ret ⟨_, rfl, ?_⟩)
  (first | refine AS_gt rfl ?_ ?_ | refine AS_gf rfl ?_ ?_ | refine AI_cond rfl ?_ ?_) <;> intro hc <;> have hc' := hc <;> try simp only [decide_eq_true_eq, decide_eq_false_iff_not, Bool.not_eq_true', Bool.not_eq_false', Bool.not_eq_true, Bool.not_eq_false, beq_iff_eq, bne_iff_ne, beq_eq_false_iff_ne, bne_eq_false_iff_eq, Int.not_lt, Int.not_le, ge_iff_le, gt_iff_lt, not_and, ne_eq, Decidable.not_not] at hc'
  all_goals
    repeat (first | refine AI_seqk fun K hK => ?_ | refine AI_reg ?_ | ((first | refine wmv rfl ?_ | refine wag rfl ?_ | refine war _ rfl rfl rfl (by omega) (by omega) ?_ | refine wbn rfl rfl rfl ?_ | refine wnt rfl ?_ | refine wex rfl rfl ?_ | refine wpt rfl (by first | assumption | with_reducible rfl) rfl ?_ | refine wpf rfl (by first | assumption | with_reducible rfl) rfl ?_ | refine wpb rfl rfl rfl ?_ | refine wmf rfl ?_ | refine wnc rfl ?_ | refine wbq Try.underlying4 rfl rfl _ (.inr ⟨rfl, rfl⟩) ?_ | refine wbq Try.underlying4 rfl rfl _ (.inl ⟨rfl, rfl⟩) ?_); try dsimp only [st, List.set_cons_zero, List.set_cons_succ]) | ((first | refine AS_nil ?_ | refine AI_skip ?_ | refine AI_exit ?_); try simp only [AThen, ABlk, reduceIte, reduceCtorEq]) | ((first | refine hK _ _ ?_ | ((first | clear hK K | clear IH hK K); refine hK _ _ ?_) | ((first | clear hK K | clear IH hK K); (first | clear hK K | clear IH hK K); refine hK _ _ ?_) | ((first | clear hK K | clear IH hK K); (first | clear hK K | clear IH hK K); (first | clear hK K | clear IH hK K); refine hK _ _ ?_)); try (first | clear hK K | clear IH hK K)) | refine AI_cond_t rfl (by first | assumption | with_reducible rfl) ?_ | refine AI_cond_f rfl (by first | assumption | with_reducible rfl) ?_ | refine AS_gy rfl (by first | assumption | with_reducible rfl) ?_ | refine AS_gtn rfl (by first | assumption | with_reducible rfl) ?_ | refine AS_gfn rfl (by first | assumption | with_reducible rfl) ?_ | refine AI_block (AI_loop ?_) | refine AI_block ?_ | refine AI_ret ⟨_, rfl, ?_⟩)
  · exact ⟨by simp [hc', oneA], rfl⟩
  · exact ⟨by first | (simp [oneA, hc']; done) | (simp [oneA, hc']; omega), rfl⟩

/-- The first place from i on. -/
def idxFrom {α : Type} (p : α → Bool) : List α → Int → Int
  | [], _ => -1
  | x :: l, i => if p x then i else idxFrom p l (i + 1)

theorem idxFrom_any {α : Type} (p : α → Bool) : ∀ (l : List α) (i : Int), 0 ≤ i → (decide (0 ≤ idxFrom p l i)) = l.any p
  | [], i, _ => by simp [idxFrom]
  | x :: l, i, h => by
    cases hp : p x <;> simp [idxFrom, hp, h]
    rw [← idxFrom_any p l (i + 1) (by omega)]

theorem drop_at {α : Type} {l : List α} {i : Int} (h0 : 0 ≤ i) (h1 : i < l.length) : ∃ y, l[i.toNat]? = some y ∧ y ∈ l ∧ l.drop i.toNat = y :: l.drop (i.toNat + 1) := by
  have hlt : i.toNat < l.length := by omega
  exact ⟨l[i.toNat], List.getElem?_eq_getElem hlt, List.getElem_mem hlt, List.drop_eq_getElem_cons hlt⟩

theorem toNat_succ {i : Int} (h0 : 0 ≤ i) : (i + 1).toNat = i.toNat + 1 := by omega

/-! ### The cursor that draws arguments: what it hands back, within bounds -/
def enU (n : Int) : List AV := [.i .u8 n]

theorem enU1 (x : Int) : (enU x).length = 1 := rfl

theorem and255 (x : Int) : 0 ≤ IntKind.i64.wrap (IntKind.u64.wrap (BitVec.ofInt IntKind.u64.bits x &&& BitVec.ofInt IntKind.u64.bits 255).toNat) ∧ IntKind.i64.wrap (IntKind.u64.wrap (BitVec.ofInt IntKind.u64.bits x &&& BitVec.ofInt IntKind.u64.bits 255).toNat) ≤ 255 := by
  have h : (BitVec.ofInt IntKind.u64.bits x &&& BitVec.ofInt IntKind.u64.bits 255).toNat ≤ 255 := by
    rw [BitVec.toNat_and]
    exact Nat.le_trans Nat.and_le_right (by decide)
  generalize (BitVec.ofInt IntKind.u64.bits x &&& BitVec.ofInt IntKind.u64.bits 255).toNat = k at *
  rw [IntWalk.u64_in _ (by omega), IntWalk.i64_in _ (by omega)]
  omega

theorem next_ac (bc : Nat) (cv : AV) (l : List Int) (ct sd : Int) (h0 h : AH) (L : List It) (HL : Loq h0 h (.pt bc [cv, .i .i64 ct, .i .u64 sd] :: L)) (hcv : RdG 1 enU h0 cv l) (hb : ∀ x ∈ l, 0 ≤ x ∧ x ≤ 255) (h1 : 0 ≤ ct) (h2 : ct ≤ 1099511627776) :
    AC Try.prog 93 [.p bc 0] h (fun r h' => ∃ M, (∃ x sd', r = .i .i64 x ∧ 0 ≤ x ∧ x ≤ 255 ∧ M = .pt bc [cv, .i .i64 (ct + 1), .i .u64 sd'] :: L) ∧ Loq h0 h' M) := by
  have hln := hcv.len
  refine e93 _ fun wf => ?_
  unfold c93
  refine LI_startL HL ?_
  refine W ?_
  refine dz93_0 ?_
  refine WX ?_
  refine W ?_
  refine LI_post (fun a M => ∃ (x : Int), (∃ r : Nat → AV, a = [.p bc 0, r 1, r 2, .i .i64 x, r 4, r 5, r 6, r 7, r 8, r 9, r 10, r 11, r 12, r 13, r 14, r 15, r 16, r 17, r 18, r 19, r 20, r 21, r 22, r 23, r 24, r 25, r 26, r 27, r 28, r 29, r 30, r 31, r 32, r 33, r 34, r 35, r 36, r 37, r 38, r 39, r 40, r 41, r 42, r 43, r 44, r 45, r 46, r 47, r 48, r 49, r 50, r 51, r 52, r 53, r 54, r 55, r 56, r 57, r 58, r 59, r 60, r 61]) ∧ M = .pt bc [cv, .i .i64 ct, .i .u64 sd] :: L ∧ 0 ≤ x ∧ x ≤ 255) ?_ ?_
  · (first | refine LS_gt rfl ?_ ?_ | refine LS_gf rfl ?_ ?_ | refine LI_cond rfl ?_ ?_) <;> intro hc <;> have hc' := hc <;> try simp only [decide_eq_true_eq, decide_eq_false_iff_not, Bool.not_eq_true', Bool.not_eq_false', Bool.not_eq_true, Bool.not_eq_false, beq_iff_eq, bne_iff_ne, beq_eq_false_iff_ne, bne_eq_false_iff_eq, Int.not_lt, Int.not_le, ge_iff_le, gt_iff_lt, not_and, ne_eq, Decidable.not_not] at hc'
    all_goals (try (dsimp only [st, setL, AV.cells, List.set_cons_zero, List.set_cons_succ, List.drop_zero, List.drop_succ_cons, List.take_zero, List.take_succ_cons, Nat.zero_add, Nat.add_zero, Nat.reduceAdd, List.cons_append, List.nil_append, List.eraseIdx_cons_zero, List.eraseIdx_cons_succ]))
    all_goals (refine W ?_)
    · obtain ⟨y, hy, hym, _⟩ := drop_at (l := l) h1 hc'
      have hyb := hb y hym
      have e : IntKind.i64.wrap y = y := IntWalk.i64_in _ (by omega)
      refine dz93_1 ?_
      refine WX ?_
      refine W ?_
      refine LX_ix (fun h' HL => hcv.le HL.le) enU1 hy h1 rfl rfl noG fun q1 o1 hrow1 => ?_
      try (dsimp only [st, setL, AV.cells, List.set_cons_zero, List.set_cons_succ, List.drop_zero, List.drop_succ_cons, List.take_zero, List.take_succ_cons, Nat.zero_add, Nat.add_zero, Nat.reduceAdd, List.cons_append, List.nil_append, List.eraseIdx_cons_zero, List.eraseIdx_cons_succ])
      refine WX ?_
      refine W ?_
      exact ⟨rfl, _, exJ rfl, rfl, by omega, by omega⟩
    · exact ⟨rfl, _, exJ rfl, rfl, by omega, by omega⟩
  · rintro _ _ ⟨x, ⟨r, rfl⟩, rfl, hx0, hx1⟩
    refine LThen_n ?_
    refine W ?_
    refine dz93_2 ?_
    refine WX ?_
    refine W ?_
    (first | refine LS_gt rfl ?_ ?_ | refine LS_gf rfl ?_ ?_ | refine LI_cond rfl ?_ ?_) <;> intro hc <;> have hc' := hc <;> try simp only [decide_eq_true_eq, decide_eq_false_iff_not, Bool.not_eq_true', Bool.not_eq_false', Bool.not_eq_true, Bool.not_eq_false, beq_iff_eq, bne_iff_ne, beq_eq_false_iff_ne, bne_eq_false_iff_eq, Int.not_lt, Int.not_le, ge_iff_le, gt_iff_lt, not_and, ne_eq, Decidable.not_not] at hc'
    all_goals (try (dsimp only [st, setL, AV.cells, List.set_cons_zero, List.set_cons_succ, List.drop_zero, List.drop_succ_cons, List.take_zero, List.take_succ_cons, Nat.zero_add, Nat.add_zero, Nat.reduceAdd, List.cons_append, List.nil_append, List.eraseIdx_cons_zero, List.eraseIdx_cons_succ]))
    all_goals (refine W ?_)
    · refine RET fun h' HL => ?_
      try dsimp only [oneA]
      exact ⟨_, ⟨x, _, rfl, hx0, hx1, rfl⟩, HL⟩
    · refine LS_v (OpV_shr rfl rfl (by omega)) ?_
      try (dsimp only [st, setL, AV.cells, List.set_cons_zero, List.set_cons_succ, List.drop_zero, List.drop_succ_cons, List.take_zero, List.take_succ_cons, Nat.zero_add, Nat.add_zero, Nat.reduceAdd, List.cons_append, List.nil_append, List.eraseIdx_cons_zero, List.eraseIdx_cons_succ])
      refine W ?_
      refine RET fun h' HL => ?_
      try dsimp only [oneA]
      exact ⟨_, ⟨_, _, rfl, (and255 _).1, (and255 _).2, rfl⟩, HL⟩

theorem pick_ac (n : Int) (bc : Nat) (cv : AV) (l : List Int) (ct sd : Int) (h0 h : AH) (L : List It) (HL : Loq h0 h (.pt bc [cv, .i .i64 ct, .i .u64 sd] :: L)) (hcv : RdG 1 enU h0 cv l) (hb : ∀ x ∈ l, 0 ≤ x ∧ x ≤ 255) (h1 : 0 ≤ ct) (h2 : ct ≤ 549755813888) :
    AC Try.prog 73 [.p bc 0, .i .i64 n] h (fun r h' => ∃ M, (∃ x ct' sd', r = .i .i64 x ∧ (0 ≤ x ∧ (x = 0 ∨ x < n)) ∧ (ct ≤ ct' ∧ ct' ≤ ct + 2) ∧ M = .pt bc [cv, .i .i64 ct', .i .u64 sd'] :: L) ∧ Loq h0 h' M) := by
  refine e73 _ _ fun wf => ?_
  unfold c73
  refine LI_startL HL ?_
  refine W ?_
  (first | refine LS_gt rfl ?_ ?_ | refine LS_gf rfl ?_ ?_ | refine LI_cond rfl ?_ ?_) <;> intro hc <;> have hc' := hc <;> try simp only [decide_eq_true_eq, decide_eq_false_iff_not, Bool.not_eq_true', Bool.not_eq_false', Bool.not_eq_true, Bool.not_eq_false, beq_iff_eq, bne_iff_ne, beq_eq_false_iff_ne, bne_eq_false_iff_eq, Int.not_lt, Int.not_le, ge_iff_le, gt_iff_lt, not_and, ne_eq, Decidable.not_not] at hc'
  all_goals (try (dsimp only [st, setL, AV.cells, List.set_cons_zero, List.set_cons_succ, List.drop_zero, List.drop_succ_cons, List.take_zero, List.take_succ_cons, Nat.zero_add, Nat.add_zero, Nat.reduceAdd, List.cons_append, List.nil_append, List.eraseIdx_cons_zero, List.eraseIdx_cons_succ]))
  all_goals (refine W ?_)
  · refine RET fun h' HL => ?_
    try dsimp only [oneA]
    exact ⟨_, ⟨0, ct, sd, rfl, ⟨by omega, .inl rfl⟩, by omega, rfl⟩, HL⟩
  · refine LS_cm (.refl _) (fun h' HL wf => next_ac bc cv l ct sd h0 h' L HL hcv hb h1 (by omega)) rfl rfl ?_
    try (dsimp only [st, setL, AV.cells, List.set_cons_zero, List.set_cons_succ, List.drop_zero, List.drop_succ_cons, List.take_zero, List.take_succ_cons, Nat.zero_add, Nat.add_zero, Nat.reduceAdd, List.cons_append, List.nil_append, List.eraseIdx_cons_zero, List.eraseIdx_cons_succ])
    refine W ?_
    rintro _ _ ⟨x, sd1, rfl, x0, x1, rfl⟩
    try (dsimp only [st, setL, AV.cells, List.set_cons_zero, List.set_cons_succ, List.drop_zero, List.drop_succ_cons, List.take_zero, List.take_succ_cons, Nat.zero_add, Nat.add_zero, Nat.reduceAdd, List.cons_append, List.nil_append, List.eraseIdx_cons_zero, List.eraseIdx_cons_succ])
    refine W ?_
    (first | refine LS_gt rfl ?_ ?_ | refine LS_gf rfl ?_ ?_ | refine LI_cond rfl ?_ ?_) <;> intro hc <;> have hc' := hc <;> try simp only [decide_eq_true_eq, decide_eq_false_iff_not, Bool.not_eq_true', Bool.not_eq_false', Bool.not_eq_true, Bool.not_eq_false, beq_iff_eq, bne_iff_ne, beq_eq_false_iff_ne, bne_eq_false_iff_eq, Int.not_lt, Int.not_le, ge_iff_le, gt_iff_lt, not_and, ne_eq, Decidable.not_not] at hc'
    all_goals (try (dsimp only [st, setL, AV.cells, List.set_cons_zero, List.set_cons_succ, List.drop_zero, List.drop_succ_cons, List.take_zero, List.take_succ_cons, Nat.zero_add, Nat.add_zero, Nat.reduceAdd, List.cons_append, List.nil_append, List.eraseIdx_cons_zero, List.eraseIdx_cons_succ]))
    all_goals (refine W ?_)
    · refine LS_cm (.refl _) (fun h' HL wf => next_ac bc cv l (ct + 1) sd1 h0 h' L HL hcv hb (by omega) (by omega)) rfl rfl ?_
      try (dsimp only [st, setL, AV.cells, List.set_cons_zero, List.set_cons_succ, List.drop_zero, List.drop_succ_cons, List.take_zero, List.take_succ_cons, Nat.zero_add, Nat.add_zero, Nat.reduceAdd, List.cons_append, List.nil_append, List.eraseIdx_cons_zero, List.eraseIdx_cons_succ])
      refine W ?_
      rintro _ _ ⟨y, sd2, rfl, y0, y1, rfl⟩
      try (dsimp only [st, setL, AV.cells, List.set_cons_zero, List.set_cons_succ, List.drop_zero, List.drop_succ_cons, List.take_zero, List.take_succ_cons, Nat.zero_add, Nat.add_zero, Nat.reduceAdd, List.cons_append, List.nil_append, List.eraseIdx_cons_zero, List.eraseIdx_cons_succ])
      refine W ?_
      refine LS_v (OpV_rem rfl rfl (by omega)) ?_
      try (dsimp only [st, setL, AV.cells, List.set_cons_zero, List.set_cons_succ, List.drop_zero, List.drop_succ_cons, List.take_zero, List.take_succ_cons, Nat.zero_add, Nat.add_zero, Nat.reduceAdd, List.cons_append, List.nil_append, List.eraseIdx_cons_zero, List.eraseIdx_cons_succ])
      refine W ?_
      have e := IntWalk.rem_in (x * 256 + y) n (by omega)
      have e1 := Int.emod_nonneg (x * 256 + y) (b := n) (by omega)
      have e2 := Int.emod_lt_of_pos (x * 256 + y) (b := n) (by omega)
      refine RET fun h' HL => ?_
      try dsimp only [oneA]
      exact ⟨_, ⟨_, ct + 1 + 1, _, rfl, by omega, by omega, rfl⟩, HL⟩
    · refine LS_v (OpV_rem rfl rfl (by omega)) ?_
      try (dsimp only [st, setL, AV.cells, List.set_cons_zero, List.set_cons_succ, List.drop_zero, List.drop_succ_cons, List.take_zero, List.take_succ_cons, Nat.zero_add, Nat.add_zero, Nat.reduceAdd, List.cons_append, List.nil_append, List.eraseIdx_cons_zero, List.eraseIdx_cons_succ])
      refine W ?_
      have e := IntWalk.rem_in x n (by omega)
      have e1 := Int.emod_nonneg x (b := n) (by omega)
      have e2 := Int.emod_lt_of_pos x (b := n) (by omega)
      refine RET fun h' HL => ?_
      try dsimp only [oneA]
      exact ⟨_, ⟨_, ct + 1, _, rfl, by omega, by omega, rfl⟩, HL⟩

theorem one_ac (n : Int) (bc : Nat) (cv : AV) (l : List Int) (ct sd : Int) (h0 h : AH) (L : List It) (HL : Loq h0 h (.pt bc [cv, .i .i64 ct, .i .u64 sd] :: L)) (hcv : RdG 1 enU h0 cv l) (hb : ∀ x ∈ l, 0 ≤ x ∧ x ≤ 255) (h1 : 0 ≤ ct) (h2 : ct ≤ 549755813888) :
    AC Try.prog 96 [.p bc 0, .i .i64 n] h (fun r h' => ∃ M, (∃ (x : Bool) (ct' sd' : Int), r = .b x ∧ True ∧ (ct ≤ ct' ∧ ct' ≤ ct + 2) ∧ M = .pt bc [cv, .i .i64 ct', .i .u64 sd'] :: L) ∧ Loq h0 h' M) := by
  refine e96 _ _ fun wf => ?_
  unfold c96
  refine LI_startL HL ?_
  refine W ?_
  refine LS_cm (.refl _) (fun h' HL wf => pick_ac n _ _ _ _ _ _ h' _ HL  hcv hb (by omega) (by omega)) rfl rfl ?_
  rintro _ _ ⟨x, ct1, sd1, rfl, hx, hct1, rfl⟩
  try (dsimp only [st, setL, AV.cells, List.set_cons_zero, List.set_cons_succ, List.drop_zero, List.drop_succ_cons, List.take_zero, List.take_succ_cons, Nat.zero_add, Nat.add_zero, Nat.reduceAdd, List.cons_append, List.nil_append, List.eraseIdx_cons_zero, List.eraseIdx_cons_succ])
  refine W ?_
  refine RET fun h' HL => ?_
  try dsimp only [oneA]
  exact ⟨_, ⟨_, ct1, sd1, rfl, trivial, hct1, rfl⟩, HL⟩

theorem among_ac (li : List Int) (w : AV) (bc : Nat) (cv : AV) (l : List Int) (ct sd : Int) (h0 h : AH) (L : List It) (HL : Loq h0 h (.pt bc [cv, .i .i64 ct, .i .u64 sd] :: L)) (hw : ∀ h', Loq h0 h' L → Rd h' w li) (hl : 0 < li.length) (hcv : RdG 1 enU h0 cv l) (hb : ∀ x ∈ l, 0 ≤ x ∧ x ≤ 255) (h1 : 0 ≤ ct) (h2 : ct ≤ 549755813888) :
    AC Try.prog 74 [.p bc 0, w] h (fun r h' => ∃ M, (∃ x ct' sd', r = .i .i64 x ∧ x ∈ li ∧ (ct ≤ ct' ∧ ct' ≤ ct + 2) ∧ M = .pt bc [cv, .i .i64 ct', .i .u64 sd'] :: L) ∧ Loq h0 h' M) := by
  have hln := (hw h HL.tail).len
  refine e74 _ _ fun wf => ?_
  unfold c74
  refine LI_startL HL ?_
  refine W ?_
  refine LS_cm (.refl _) (fun h' HL wf => pick_ac li.length _ _ _ _ _ _ h' _ HL  hcv hb (by omega) (by omega)) rfl rfl ?_
  rintro _ _ ⟨x, ct1, sd1, rfl, hx, hct1, rfl⟩
  try (dsimp only [st, setL, AV.cells, List.set_cons_zero, List.set_cons_succ, List.drop_zero, List.drop_succ_cons, List.take_zero, List.take_succ_cons, Nat.zero_add, Nat.add_zero, Nat.reduceAdd, List.cons_append, List.nil_append, List.eraseIdx_cons_zero, List.eraseIdx_cons_succ])
  refine W ?_
  obtain ⟨y, hy, hym, _⟩ := drop_at (l := li) hx.1 (by omega)
  refine LS_ix (fun h' HL => hw h' HL.tail) enI1 hy hx.1 rfl rfl fun q1 o1 hrow1 => ?_
  try (dsimp only [st, setL, AV.cells, List.set_cons_zero, List.set_cons_succ, List.drop_zero, List.drop_succ_cons, List.take_zero, List.take_succ_cons, Nat.zero_add, Nat.add_zero, Nat.reduceAdd, List.cons_append, List.nil_append, List.eraseIdx_cons_zero, List.eraseIdx_cons_succ])
  refine W ?_
  refine RET fun h' HL => ?_
  try dsimp only [oneA]
  exact ⟨_, ⟨y, ct1, sd1, rfl, hym, hct1, rfl⟩, HL⟩

/-! ### What the laws draw -/
theorem bytes_in {l : List Int} (h : ∀ n ∈ l, (Lit.int .u8 n).wf = true) : ∀ x ∈ l, 0 ≤ x ∧ x ≤ 255 := fun x hx => by
  have := h x hx
  simp [Lit.wf, IntKind.min, IntKind.max, IntKind.signed, IntKind.bits] at this
  omega

theorem big_ac (c1 c2 : List Int) (v1 v2 : AV) (h : AH) (hR1 : RdG 1 enU h v1 c1) (hR2 : RdG 1 enU h v2 c2) (hm1 : c1.length ≤ 9223372036854775807) (hm2 : c2.length ≤ 9223372036854775807) :
    AC Try.prog 31 [v1, v2] h (fun r h' => r = .b (decide ((c1.length : Int) > 1048576) || decide ((c2.length : Int) > 1048576 - c1.length)) ∧ h.le h') := by
  have l1 := hR1.len
  have l2 := hR2.len
  refine e31 _ _ fun wf => ?_
  unfold c31
  refine LI_start wf ?_
  refine W ?_
  (first | refine LS_gt rfl ?_ ?_ | refine LS_gf rfl ?_ ?_ | refine LI_cond rfl ?_ ?_) <;> intro hc <;> have hc' := hc <;> try simp only [decide_eq_true_eq, decide_eq_false_iff_not, Bool.not_eq_true', Bool.not_eq_false', Bool.not_eq_true, Bool.not_eq_false, beq_iff_eq, bne_iff_ne, beq_eq_false_iff_ne, bne_eq_false_iff_eq, Int.not_lt, Int.not_le, ge_iff_le, gt_iff_lt, not_and, ne_eq, Decidable.not_not] at hc'
  all_goals (try (dsimp only [st, setL, AV.cells, List.set_cons_zero, List.set_cons_succ, List.drop_zero, List.drop_succ_cons, List.take_zero, List.take_succ_cons, Nat.zero_add, Nat.add_zero, Nat.reduceAdd, List.cons_append, List.nil_append, List.eraseIdx_cons_zero, List.eraseIdx_cons_succ]))
  all_goals (refine W ?_)
  · refine RET fun h' HL => ?_
    try dsimp only [oneA]
    exact ⟨by rw [hc, Bool.false_or], HL.le⟩
  · refine RET fun h' HL => ?_
    try dsimp only [oneA]
    exact ⟨by rw [hc, Bool.true_or], HL.le⟩

theorem take_snoc {α : Type} {l : List α} {i : Nat} {y : α} (hy : l[i]? = some y) : l.take (i + 1) = l.take i ++ [y] := by rw [List.take_add_one, hy]; rfl

def ssI (v : AV) (us : List AV) (ll : List (List Int)) : List It := .sl v 1 (us.flatMap enV) :: (rowsI us ll ++ [])

theorem at_ {α : Type} {l : List α} {i : Nat} (h : i < l.length) : ∃ x, l[i]? = some x := ⟨_, List.getElem?_eq_getElem h⟩

structure PlP (h : AH) (b : Nat) (p : PlanM) (vs vo : AV) : Prop where
  row : h.row b 0 3 = some [.i .i64 p.n, vs, vo]
  steps : RdG 2 enStep h vs p.steps
  outs : Rd h vo p.outs

theorem PlP.le {h h' : AH} {b : Nat} {p : PlanM} {vs vo : AV} (H : PlP h b p vs vo) (hle : h.le h') : PlP h' b p vs vo := ⟨hle.row H.row, H.steps.le hle, H.outs.le hle⟩

theorem PlP.frz {h : AH} {b : Nat} {p : PlanM} {vs vo : AV} (H : PlP h b p vs vo) : PlP h.frz b p vs vo := ⟨H.row, H.steps.frz, H.outs.frz⟩

def bump (l : List Int) (i : Int) : List Int := l.set i.toNat (l.getD i.toNat 0 + 1)

theorem Index_ac (l : List Int) (v : AV) (x : Int) (h : AH) (hR : Rd h v l) (hl : l.length ≤ 4611686018427387904) : AC Try.prog 94 [v, .i .i64 x] h (fun r h' => r = .i .i64 (idxFrom (fun y => x == y) l 0) ∧ h.le h') := by
  refine e94 _ _ fun wf => ?_
  unfold c94
  refine LI_start wf ?_
  refine W ?_
  refine LIL_ind (fun n a L => ∃ (i : Int), (∃ r : Nat → AV, a = [v, .i .i64 x, r 2, r 3, r 4, r 5, r 6, .i .i64 l.length, .i .i64 i, r 9, r 10, r 11, r 12, r 13, r 14, r 15, r 16, r 17, r 18]) ∧ L = [] ∧ 0 ≤ i ∧ i + n = l.length ∧ idxFrom (fun y => x == y) l 0 = idxFrom (fun y => x == y) (l.drop i.toNat) i)
    l.length ⟨0, exJ rfl, rfl, by omega, by omega, rfl⟩ ?_
  rintro n a L ⟨i, ⟨r, rfl⟩, rfl, h0, hn, heq⟩ IH
  refine W ?_
  (first | refine LS_gt rfl ?_ ?_ | refine LS_gf rfl ?_ ?_ | refine LI_cond rfl ?_ ?_) <;> intro hc <;> have hc' := hc <;> try simp only [decide_eq_true_eq, decide_eq_false_iff_not, Bool.not_eq_true', Bool.not_eq_false', Bool.not_eq_true, Bool.not_eq_false, beq_iff_eq, bne_iff_ne, beq_eq_false_iff_ne, bne_eq_false_iff_eq, Int.not_lt, Int.not_le, ge_iff_le, gt_iff_lt, not_and, ne_eq, Decidable.not_not] at hc'
  all_goals (try (dsimp only [st, setL, AV.cells, List.set_cons_zero, List.set_cons_succ, List.drop_zero, List.drop_succ_cons, List.take_zero, List.take_succ_cons, Nat.zero_add, Nat.add_zero, Nat.reduceAdd, List.cons_append, List.nil_append, List.eraseIdx_cons_zero, List.eraseIdx_cons_succ]))
  all_goals (refine W ?_)
  · obtain ⟨y, hy, hym, hd⟩ := drop_at h0 hc'
    rw [hd, idxFrom] at heq
    refine LS_ix (fun h' HL => hR.le HL.le) enI1 hy h0 rfl rfl fun b o hrow => ?_
    try (dsimp only [st, setL, AV.cells, List.set_cons_zero, List.set_cons_succ, List.drop_zero, List.drop_succ_cons, List.take_zero, List.take_succ_cons, Nat.zero_add, Nat.add_zero, Nat.reduceAdd, List.cons_append, List.nil_append, List.eraseIdx_cons_zero, List.eraseIdx_cons_succ])
    refine W ?_
    (first | refine LS_gt rfl ?_ ?_ | refine LS_gf rfl ?_ ?_ | refine LI_cond rfl ?_ ?_) <;> intro hc <;> have hc' := hc <;> try simp only [decide_eq_true_eq, decide_eq_false_iff_not, Bool.not_eq_true', Bool.not_eq_false', Bool.not_eq_true, Bool.not_eq_false, beq_iff_eq, bne_iff_ne, beq_eq_false_iff_ne, bne_eq_false_iff_eq, Int.not_lt, Int.not_le, ge_iff_le, gt_iff_lt, not_and, ne_eq, Decidable.not_not] at hc'
    all_goals (try (dsimp only [st, setL, AV.cells, List.set_cons_zero, List.set_cons_succ, List.drop_zero, List.drop_succ_cons, List.take_zero, List.take_succ_cons, Nat.zero_add, Nat.add_zero, Nat.reduceAdd, List.cons_append, List.nil_append, List.eraseIdx_cons_zero, List.eraseIdx_cons_succ]))
    all_goals (refine W ?_)
    · rw [heq, if_pos hc]
      refine RET fun h' HL => ?_
      try dsimp only [oneA]
      exact ⟨rfl, HL.le⟩
    · refine IH (n - 1) _ _ (by omega) ⟨i + 1, exJ rfl, rfl, by omega, by omega, ?_⟩
      rw [heq, if_neg (by rw [hc]; simp), toNat_succ h0]
  · rw [heq, List.drop_eq_nil_of_le (by omega)]
    refine RET fun h' HL => ?_
    try dsimp only [oneA]
    exact ⟨rfl, HL.le⟩

theorem Contains_ac (l : List Int) (v : AV) (x : Int) (h : AH) (hR : Rd h v l) (hl : l.length ≤ 4611686018427387904) : AC Try.prog 75 [v, .i .i64 x] h (fun r h' => r = .b (l.any fun y => y == x) ∧ h.le h') := by
  refine e75 _ _ fun wf => ?_
  unfold c75
  refine LI_start wf ?_
  refine W ?_
  refine LS_c0 (fun h' HL wf => Index_ac l v x h' (hR.le HL.le) hl) rfl rfl ?_
  try (dsimp only [st, setL, AV.cells, List.set_cons_zero, List.set_cons_succ, List.drop_zero, List.drop_succ_cons, List.take_zero, List.take_succ_cons, Nat.zero_add, Nat.add_zero, Nat.reduceAdd, List.cons_append, List.nil_append, List.eraseIdx_cons_zero, List.eraseIdx_cons_succ])
  refine W ?_
  refine RET fun h' HL => ?_
  try dsimp only [oneA]
  refine ⟨?_, HL.le⟩
  have e : (fun y => y == x) = fun y => x == y := by funext y; exact Bool.beq_comm
  rw [e, ← idxFrom_any _ l 0 (by omega)]

theorem loq_ns {h0 h : AH} {L : List It} (H : Loq h0 h L) (k : Nat) : Loq h0 h (.sl .ns k [] :: L) := H.cons (.inl ⟨rfl, rfl⟩) fun y hy => .sl fun b e => by cases e

/-- A list handed back, and whether. -/
def TupI (l : List Int) (ok : Bool) (r : AV) (M : List It) : Prop := ∃ w, r = .tup [w, .b ok] ∧ lenA w = some l.length ∧ w.sc = true ∧ M = [.sl w 1 (l.flatMap enI)]

theorem TupI.of {l : List Int} {ok : Bool} {h0 h : AH} {w : AV} (H : Own h0 1 enI h w l) : ∃ M, TupI l ok (.tup [w, .b ok]) M ∧ Loq h0 h M := ⟨_, ⟨w, rfl, H.rd.len, rd_sc H.rd, rfl⟩, H.loc enI1⟩

theorem TupI.none {h0 h : AH} {L : List It} (H : Loq h0 h L) : ∃ M, TupI [] false (.tup [.ns, .b false]) M ∧ Loq h0 h M := ⟨_, ⟨.ns, rfl, rfl, rfl, rfl⟩, loq_ns (H.sub (List.nil_sublist _)) 1⟩

/-! ### Numbers of paths -/
def pathS (n : Int) (x : Int) (U : List Int) (i : Nat) (s : Int × Int) : List Int := if n + i = x then U else U.set (n + i).toNat (U.getD s.1.toNat 0 + U.getD s.2.toNat 0)

/-- What is known of the numbers when some steps have been done. -/
structure PathI (p : PlanM) (x : Int) (i : Nat) (U : List Int) : Prop where
  len : U.length = (p.n + p.steps.length).toNat
  at_ : U.getD x.toNat 0 = 1
  lo : ∀ j : Nat, (j : Int) < x → U.getD j 0 = 0
  hi : ∀ j : Nat, p.n + i ≤ j → (j : Int) ≠ x → U.getD j 0 = 0
  bd : ∀ j : Nat, 0 ≤ U.getD j 0 ∧ U.getD j 0 ≤ 2 ^ i

theorem getD_set {U : List Int} {j k : Nat} {y : Int} (hk : k < U.length) : (U.set k y).getD j 0 = if k = j then y else U.getD j 0 := by
  simp only [List.getD, List.getElem?_set]
  split
  · rename_i e; subst e; simp [hk]
  · rfl

theorem PathI.next {p : PlanM} {x : Int} {i : Nat} {U : List Int} {s : Int × Int} (H : PathI p x i U) (hn : 1 ≤ p.n) (hx : 0 ≤ x) (hi : i < p.steps.length) (h1 : 0 ≤ s.1) (h2 : s.1 ≤ s.2) (h3 : s.2 < p.n + i) : PathI p x (i + 1) (pathS p.n x U i s) := by
  have hp : (2 : Int) ^ (i + 1) = 2 * 2 ^ i := by rw [Int.pow_succ]; omega
  have hpos : (0 : Int) ≤ 2 ^ i := Int.pow_nonneg (by omega)
  unfold pathS
  split
  · rename_i e
    refine ⟨H.len, H.at_, H.lo, fun j hj hx => H.hi j (by omega) hx, fun j => ?_⟩
    have := H.bd j
    rw [hp]
    omega
  · rename_i e
    have hk : (p.n + i).toNat < U.length := by rw [H.len]; omega
    have hb1 := H.bd s.1.toNat
    have hb2 := H.bd s.2.toNat
    refine ⟨by simp [H.len], ?_, ?_, ?_, ?_⟩
    · rw [getD_set hk, if_neg (by omega)]; exact H.at_
    · intro j hj
      rw [getD_set hk]
      split
      · rw [H.lo _ (by omega), H.lo _ (by omega)]; rfl
      · exact H.lo j hj
    · intro j hj hx
      rw [getD_set hk, if_neg (by omega)]
      exact H.hi j (by omega) hx
    · intro j
      rw [getD_set hk, hp]
      split
      · omega
      · have := H.bd j; omega

theorem isShort_ac (n : Int) (h : AH) : AC Try.prog 59 [.i .i64 n] h (fun v h' => v = .b (decide (1 ≤ n ∧ n ≤ 100)) ∧ h = h') := by
  refine e59 _ fun wf => ?_
  unfold c59
  repeat (first | refine AI_seqk fun K hK => ?_ | refine AI_reg ?_ | ((first | refine wmv rfl ?_ | refine wag rfl ?_ | refine war _ rfl rfl rfl (by omega) (by omega) ?_ | refine wbn rfl rfl rfl ?_ | refine wnt rfl ?_ | refine wex rfl rfl ?_ | refine wpt rfl (by first | assumption | with_reducible rfl) rfl ?_ | refine wpf rfl (by first | assumption | with_reducible rfl) rfl ?_ | refine wpb rfl rfl rfl ?_ | refine wmf rfl ?_ | refine wnc rfl ?_ | refine wbq Try.underlying4 rfl rfl _ (.inr ⟨rfl, rfl⟩) ?_ | refine wbq Try.underlying4 rfl rfl _ (.inl ⟨rfl, rfl⟩) ?_); try dsimp only [st, List.set_cons_zero, List.set_cons_succ]) | ((first | refine AS_nil ?_ | refine AI_skip ?_ | refine AI_exit ?_); try simp only [AThen, ABlk, reduceIte, reduceCtorEq]) | ((first | refine hK _ _ ?_ | ((first | clear hK K | clear IH hK K); refine hK _ _ ?_) | ((first | clear hK K | clear IH hK K); (first | clear hK K | clear IH hK K); refine hK _ _ ?_) | ((first | clear hK K | clear IH hK K); (first | clear hK K | clear IH hK K); (first | clear hK K | clear IH hK K); refine hK _ _ ?_)); try (first | clear hK K | clear IH hK K)) | refine AI_cond_t rfl (by first | assumption | with_reducible rfl) ?_ | refine AI_cond_f rfl (by first | assumption | with_reducible rfl) ?_ | refine AS_gy rfl (by first | assumption | with_reducible rfl) ?_ | refine AS_gtn rfl (by first | assumption | with_reducible rfl) ?_ | refine AS_gfn rfl (by first | assumption | with_reducible rfl) ?_ | refine AI_block (AI_loop ?_) | refine AI_block ?_ | refine AI_ret ⟨_, rfl, ?_⟩)
  refine AS_op (OpR_call rfl rfl (in_ac _ _ _ _) ?_)
  rintro _ _ wf1 ⟨rfl, rfl⟩
  try (dsimp only [st, setL, AV.cells, List.set_cons_zero, List.set_cons_succ, List.drop_zero, List.drop_succ_cons, List.take_zero, List.take_succ_cons, Nat.zero_add, Nat.add_zero, Nat.reduceAdd, List.cons_append, List.nil_append, List.eraseIdx_cons_zero, List.eraseIdx_cons_succ])
  repeat (first | refine AI_seqk fun K hK => ?_ | refine AI_reg ?_ | ((first | refine wmv rfl ?_ | refine wag rfl ?_ | refine war _ rfl rfl rfl (by omega) (by omega) ?_ | refine wbn rfl rfl rfl ?_ | refine wnt rfl ?_ | refine wex rfl rfl ?_ | refine wpt rfl (by first | assumption | with_reducible rfl) rfl ?_ | refine wpf rfl (by first | assumption | with_reducible rfl) rfl ?_ | refine wpb rfl rfl rfl ?_ | refine wmf rfl ?_ | refine wnc rfl ?_ | refine wbq Try.underlying4 rfl rfl _ (.inr ⟨rfl, rfl⟩) ?_ | refine wbq Try.underlying4 rfl rfl _ (.inl ⟨rfl, rfl⟩) ?_); try dsimp only [st, List.set_cons_zero, List.set_cons_succ]) | ((first | refine AS_nil ?_ | refine AI_skip ?_ | refine AI_exit ?_); try simp only [AThen, ABlk, reduceIte, reduceCtorEq]) | ((first | refine hK _ _ ?_ | ((first | clear hK K | clear IH hK K); refine hK _ _ ?_) | ((first | clear hK K | clear IH hK K); (first | clear hK K | clear IH hK K); refine hK _ _ ?_) | ((first | clear hK K | clear IH hK K); (first | clear hK K | clear IH hK K); (first | clear hK K | clear IH hK K); refine hK _ _ ?_)); try (first | clear hK K | clear IH hK K)) | refine AI_cond_t rfl (by first | assumption | with_reducible rfl) ?_ | refine AI_cond_f rfl (by first | assumption | with_reducible rfl) ?_ | refine AS_gy rfl (by first | assumption | with_reducible rfl) ?_ | refine AS_gtn rfl (by first | assumption | with_reducible rfl) ?_ | refine AS_gfn rfl (by first | assumption | with_reducible rfl) ?_ | refine AI_block (AI_loop ?_) | refine AI_block ?_ | refine AI_ret ⟨_, rfl, ?_⟩)
  exact ⟨rfl, rfl⟩

theorem shNumber_ac (n : Int) (h : AH) : AC Try.prog 56 [.i .i64 n] h (fun v h' => v = .b (decide (1 ≤ n ∧ n ≤ 100)) ∧ h = h') := by
  refine e56 _ fun wf => ?_
  unfold c56
  repeat (first | refine AI_seqk fun K hK => ?_ | refine AI_reg ?_ | ((first | refine wmv rfl ?_ | refine wag rfl ?_ | refine war _ rfl rfl rfl (by omega) (by omega) ?_ | refine wbn rfl rfl rfl ?_ | refine wnt rfl ?_ | refine wex rfl rfl ?_ | refine wpt rfl (by first | assumption | with_reducible rfl) rfl ?_ | refine wpf rfl (by first | assumption | with_reducible rfl) rfl ?_ | refine wpb rfl rfl rfl ?_ | refine wmf rfl ?_ | refine wnc rfl ?_ | refine wbq Try.underlying4 rfl rfl _ (.inr ⟨rfl, rfl⟩) ?_ | refine wbq Try.underlying4 rfl rfl _ (.inl ⟨rfl, rfl⟩) ?_); try dsimp only [st, List.set_cons_zero, List.set_cons_succ]) | ((first | refine AS_nil ?_ | refine AI_skip ?_ | refine AI_exit ?_); try simp only [AThen, ABlk, reduceIte, reduceCtorEq]) | ((first | refine hK _ _ ?_ | ((first | clear hK K | clear IH hK K); refine hK _ _ ?_) | ((first | clear hK K | clear IH hK K); (first | clear hK K | clear IH hK K); refine hK _ _ ?_) | ((first | clear hK K | clear IH hK K); (first | clear hK K | clear IH hK K); (first | clear hK K | clear IH hK K); refine hK _ _ ?_)); try (first | clear hK K | clear IH hK K)) | refine AI_cond_t rfl (by first | assumption | with_reducible rfl) ?_ | refine AI_cond_f rfl (by first | assumption | with_reducible rfl) ?_ | refine AS_gy rfl (by first | assumption | with_reducible rfl) ?_ | refine AS_gtn rfl (by first | assumption | with_reducible rfl) ?_ | refine AS_gfn rfl (by first | assumption | with_reducible rfl) ?_ | refine AI_block (AI_loop ?_) | refine AI_block ?_ | refine AI_ret ⟨_, rfl, ?_⟩)
  refine AS_op (OpR_call rfl rfl (l1In_ac _ _ _ _) ?_)
  rintro _ _ wf1 ⟨rfl, rfl⟩
  try (dsimp only [st, setL, AV.cells, List.set_cons_zero, List.set_cons_succ, List.drop_zero, List.drop_succ_cons, List.take_zero, List.take_succ_cons, Nat.zero_add, Nat.add_zero, Nat.reduceAdd, List.cons_append, List.nil_append, List.eraseIdx_cons_zero, List.eraseIdx_cons_succ])
  repeat (first | refine AI_seqk fun K hK => ?_ | refine AI_reg ?_ | ((first | refine wmv rfl ?_ | refine wag rfl ?_ | refine war _ rfl rfl rfl (by omega) (by omega) ?_ | refine wbn rfl rfl rfl ?_ | refine wnt rfl ?_ | refine wex rfl rfl ?_ | refine wpt rfl (by first | assumption | with_reducible rfl) rfl ?_ | refine wpf rfl (by first | assumption | with_reducible rfl) rfl ?_ | refine wpb rfl rfl rfl ?_ | refine wmf rfl ?_ | refine wnc rfl ?_ | refine wbq Try.underlying4 rfl rfl _ (.inr ⟨rfl, rfl⟩) ?_ | refine wbq Try.underlying4 rfl rfl _ (.inl ⟨rfl, rfl⟩) ?_); try dsimp only [st, List.set_cons_zero, List.set_cons_succ]) | ((first | refine AS_nil ?_ | refine AI_skip ?_ | refine AI_exit ?_); try simp only [AThen, ABlk, reduceIte, reduceCtorEq]) | ((first | refine hK _ _ ?_ | ((first | clear hK K | clear IH hK K); refine hK _ _ ?_) | ((first | clear hK K | clear IH hK K); (first | clear hK K | clear IH hK K); refine hK _ _ ?_) | ((first | clear hK K | clear IH hK K); (first | clear hK K | clear IH hK K); (first | clear hK K | clear IH hK K); refine hK _ _ ?_)); try (first | clear hK K | clear IH hK K)) | refine AI_cond_t rfl (by first | assumption | with_reducible rfl) ?_ | refine AI_cond_f rfl (by first | assumption | with_reducible rfl) ?_ | refine AS_gy rfl (by first | assumption | with_reducible rfl) ?_ | refine AS_gtn rfl (by first | assumption | with_reducible rfl) ?_ | refine AS_gfn rfl (by first | assumption | with_reducible rfl) ?_ | refine AI_block (AI_loop ?_) | refine AI_block ?_ | refine AI_ret ⟨_, rfl, ?_⟩)
  exact ⟨rfl, rfl⟩

/-- What bits.Len gives for what fits a byte. -/
def lenT (x : Int) : Int := if x < 1 then 0 else if x < 2 then 1 else if x < 4 then 2 else if x < 8 then 3 else if x < 16 then 4 else if x < 32 then 5 else if x < 64 then 6 else if x < 128 then 7 else 8

def tab8 : ByteArray := ⟨#[0, 1, 2, 2, 3, 3, 3, 3, 4, 4, 4, 4, 4, 4, 4, 4, 5, 5, 5, 5, 5, 5, 5, 5, 5, 5, 5, 5, 5, 5, 5, 5, 6, 6, 6, 6, 6, 6, 6, 6, 6, 6, 6, 6, 6, 6, 6, 6, 6, 6, 6, 6, 6, 6, 6, 6, 6, 6, 6, 6, 6, 6, 6, 6, 7, 7, 7, 7, 7, 7, 7, 7, 7, 7, 7, 7, 7, 7, 7, 7, 7, 7, 7, 7, 7, 7, 7, 7, 7, 7, 7, 7, 7, 7, 7, 7, 7, 7, 7, 7, 7, 7, 7, 7, 7, 7, 7, 7, 7, 7, 7, 7, 7, 7, 7, 7, 7, 7, 7, 7, 7, 7, 7, 7, 7, 7, 7, 7, 8, 8, 8, 8, 8, 8, 8, 8, 8, 8, 8, 8, 8, 8, 8, 8, 8, 8, 8, 8, 8, 8, 8, 8, 8, 8, 8, 8, 8, 8, 8, 8, 8, 8, 8, 8, 8, 8, 8, 8, 8, 8, 8, 8, 8, 8, 8, 8, 8, 8, 8, 8, 8, 8, 8, 8, 8, 8, 8, 8, 8, 8, 8, 8, 8, 8, 8, 8, 8, 8, 8, 8, 8, 8, 8, 8, 8, 8, 8, 8, 8, 8, 8, 8, 8, 8, 8, 8, 8, 8, 8, 8, 8, 8, 8, 8, 8, 8, 8, 8, 8, 8, 8, 8, 8, 8, 8, 8, 8, 8, 8, 8, 8, 8, 8, 8, 8, 8, 8, 8, 8, 8, 8, 8, 8, 8, 8, 8]⟩

theorem tab8_get : ∀ k : Fin 256, tab8[k.val]? = some (UInt8.ofNat (lenT k.val).toNat) ∧ IntKind.i64.wrap (UInt8.ofNat (lenT k.val).toNat).toNat = lenT k.val ∧ IntKind.u8.wrap k.val = k.val := by decide +kernel

theorem lenT_bd (x : Int) : 0 ≤ lenT x ∧ lenT x ≤ 8 := by
  unfold lenT
  repeat' split
  all_goals omega

theorem Len64_ac (x : Int) (h : AH) (h0 : 0 ≤ x) (h1 : x < 256) : AC Try.prog 99 [.i .u64 x] h (fun v h' => v = .i .i64 (lenT x) ∧ h = h') := by
  obtain ⟨k, rfl⟩ : ∃ k : Fin 256, x = k.val := ⟨⟨x.toNat, by omega⟩, by simp; omega⟩
  obtain ⟨t1, t2, t3⟩ := tab8_get k
  refine e99 _ fun wf => ?_
  unfold c99
  repeat (first | refine AI_seqk fun K hK => ?_ | refine AI_reg ?_ | ((first | refine wmv rfl ?_ | refine wag rfl ?_ | refine war _ rfl rfl rfl (by omega) (by omega) ?_ | refine wbn rfl rfl rfl ?_ | refine wnt rfl ?_ | refine wex rfl rfl ?_ | refine wpt rfl (by first | assumption | with_reducible rfl) rfl ?_ | refine wpf rfl (by first | assumption | with_reducible rfl) rfl ?_ | refine wpb rfl rfl rfl ?_ | refine wmf rfl ?_ | refine wnc rfl ?_ | refine wbq Try.underlying4 rfl rfl _ (.inr ⟨rfl, rfl⟩) ?_ | refine wbq Try.underlying4 rfl rfl _ (.inl ⟨rfl, rfl⟩) ?_); try dsimp only [st, List.set_cons_zero, List.set_cons_succ]) | ((first | refine AS_nil ?_ | refine AI_skip ?_ | refine AI_exit ?_); try simp only [AThen, ABlk, reduceIte, reduceCtorEq]) | ((first | refine hK _ _ ?_ | ((first | clear hK K | clear IH hK K); refine hK _ _ ?_) | ((first | clear hK K | clear IH hK K); (first | clear hK K | clear IH hK K); refine hK _ _ ?_) | ((first | clear hK K | clear IH hK K); (first | clear hK K | clear IH hK K); (first | clear hK K | clear IH hK K); refine hK _ _ ?_)); try (first | clear hK K | clear IH hK K)) | refine AI_cond_t rfl (by first | assumption | with_reducible rfl) ?_ | refine AI_cond_f rfl (by first | assumption | with_reducible rfl) ?_ | refine AS_gy rfl (by first | assumption | with_reducible rfl) ?_ | refine AS_gtn rfl (by first | assumption | with_reducible rfl) ?_ | refine AS_gfn rfl (by first | assumption | with_reducible rfl) ?_ | refine AI_block (AI_loop ?_) | refine AI_block ?_ | refine AI_ret ⟨_, rfl, ?_⟩)
  first | (refine AS_gtnH rfl (by simp; omega) ?_; intro hg) | (refine AS_gfnH rfl (by simp; omega) ?_; intro hg) | (refine AI_cond_fH rfl (by simp; omega) ?_; intro hg) | skip
  repeat (first | refine AI_seqk fun K hK => ?_ | refine AI_reg ?_ | ((first | refine wmv rfl ?_ | refine wag rfl ?_ | refine war _ rfl rfl rfl (by omega) (by omega) ?_ | refine wbn rfl rfl rfl ?_ | refine wnt rfl ?_ | refine wex rfl rfl ?_ | refine wpt rfl (by first | assumption | with_reducible rfl) rfl ?_ | refine wpf rfl (by first | assumption | with_reducible rfl) rfl ?_ | refine wpb rfl rfl rfl ?_ | refine wmf rfl ?_ | refine wnc rfl ?_ | refine wbq Try.underlying4 rfl rfl _ (.inr ⟨rfl, rfl⟩) ?_ | refine wbq Try.underlying4 rfl rfl _ (.inl ⟨rfl, rfl⟩) ?_); try dsimp only [st, List.set_cons_zero, List.set_cons_succ]) | ((first | refine AS_nil ?_ | refine AI_skip ?_ | refine AI_exit ?_); try simp only [AThen, ABlk, reduceIte, reduceCtorEq]) | ((first | refine hK _ _ ?_ | ((first | clear hK K | clear IH hK K); refine hK _ _ ?_) | ((first | clear hK K | clear IH hK K); (first | clear hK K | clear IH hK K); refine hK _ _ ?_) | ((first | clear hK K | clear IH hK K); (first | clear hK K | clear IH hK K); (first | clear hK K | clear IH hK K); refine hK _ _ ?_)); try (first | clear hK K | clear IH hK K)) | refine AI_cond_t rfl (by first | assumption | with_reducible rfl) ?_ | refine AI_cond_f rfl (by first | assumption | with_reducible rfl) ?_ | refine AS_gy rfl (by first | assumption | with_reducible rfl) ?_ | refine AS_gtn rfl (by first | assumption | with_reducible rfl) ?_ | refine AS_gfn rfl (by first | assumption | with_reducible rfl) ?_ | refine AI_block (AI_loop ?_) | refine AI_block ?_ | refine AI_ret ⟨_, rfl, ?_⟩)
  first | (refine AS_gtnH rfl (by simp; omega) ?_; intro hg) | (refine AS_gfnH rfl (by simp; omega) ?_; intro hg) | (refine AI_cond_fH rfl (by simp; omega) ?_; intro hg) | skip
  repeat (first | refine AI_seqk fun K hK => ?_ | refine AI_reg ?_ | ((first | refine wmv rfl ?_ | refine wag rfl ?_ | refine war _ rfl rfl rfl (by omega) (by omega) ?_ | refine wbn rfl rfl rfl ?_ | refine wnt rfl ?_ | refine wex rfl rfl ?_ | refine wpt rfl (by first | assumption | with_reducible rfl) rfl ?_ | refine wpf rfl (by first | assumption | with_reducible rfl) rfl ?_ | refine wpb rfl rfl rfl ?_ | refine wmf rfl ?_ | refine wnc rfl ?_ | refine wbq Try.underlying4 rfl rfl _ (.inr ⟨rfl, rfl⟩) ?_ | refine wbq Try.underlying4 rfl rfl _ (.inl ⟨rfl, rfl⟩) ?_); try dsimp only [st, List.set_cons_zero, List.set_cons_succ]) | ((first | refine AS_nil ?_ | refine AI_skip ?_ | refine AI_exit ?_); try simp only [AThen, ABlk, reduceIte, reduceCtorEq]) | ((first | refine hK _ _ ?_ | ((first | clear hK K | clear IH hK K); refine hK _ _ ?_) | ((first | clear hK K | clear IH hK K); (first | clear hK K | clear IH hK K); refine hK _ _ ?_) | ((first | clear hK K | clear IH hK K); (first | clear hK K | clear IH hK K); (first | clear hK K | clear IH hK K); refine hK _ _ ?_)); try (first | clear hK K | clear IH hK K)) | refine AI_cond_t rfl (by first | assumption | with_reducible rfl) ?_ | refine AI_cond_f rfl (by first | assumption | with_reducible rfl) ?_ | refine AS_gy rfl (by first | assumption | with_reducible rfl) ?_ | refine AS_gtn rfl (by first | assumption | with_reducible rfl) ?_ | refine AS_gfn rfl (by first | assumption | with_reducible rfl) ?_ | refine AI_block (AI_loop ?_) | refine AI_block ?_ | refine AI_ret ⟨_, rfl, ?_⟩)
  first | (refine AS_gtnH rfl (by simp; omega) ?_; intro hg) | (refine AS_gfnH rfl (by simp; omega) ?_; intro hg) | (refine AI_cond_fH rfl (by simp; omega) ?_; intro hg) | skip
  repeat (first | refine AI_seqk fun K hK => ?_ | refine AI_reg ?_ | ((first | refine wmv rfl ?_ | refine wag rfl ?_ | refine war _ rfl rfl rfl (by omega) (by omega) ?_ | refine wbn rfl rfl rfl ?_ | refine wnt rfl ?_ | refine wex rfl rfl ?_ | refine wpt rfl (by first | assumption | with_reducible rfl) rfl ?_ | refine wpf rfl (by first | assumption | with_reducible rfl) rfl ?_ | refine wpb rfl rfl rfl ?_ | refine wmf rfl ?_ | refine wnc rfl ?_ | refine wbq Try.underlying4 rfl rfl _ (.inr ⟨rfl, rfl⟩) ?_ | refine wbq Try.underlying4 rfl rfl _ (.inl ⟨rfl, rfl⟩) ?_); try dsimp only [st, List.set_cons_zero, List.set_cons_succ]) | ((first | refine AS_nil ?_ | refine AI_skip ?_ | refine AI_exit ?_); try simp only [AThen, ABlk, reduceIte, reduceCtorEq]) | ((first | refine hK _ _ ?_ | ((first | clear hK K | clear IH hK K); refine hK _ _ ?_) | ((first | clear hK K | clear IH hK K); (first | clear hK K | clear IH hK K); refine hK _ _ ?_) | ((first | clear hK K | clear IH hK K); (first | clear hK K | clear IH hK K); (first | clear hK K | clear IH hK K); refine hK _ _ ?_)); try (first | clear hK K | clear IH hK K)) | refine AI_cond_t rfl (by first | assumption | with_reducible rfl) ?_ | refine AI_cond_f rfl (by first | assumption | with_reducible rfl) ?_ | refine AS_gy rfl (by first | assumption | with_reducible rfl) ?_ | refine AS_gtn rfl (by first | assumption | with_reducible rfl) ?_ | refine AS_gfn rfl (by first | assumption | with_reducible rfl) ?_ | refine AI_block (AI_loop ?_) | refine AI_block ?_ | refine AI_ret ⟨_, rfl, ?_⟩)
  refine AS_op (OpR_conv Try.underlying59 Try.underlying5 rfl ?_)
  try (dsimp only [st, setL, AV.cells, List.set_cons_zero, List.set_cons_succ, List.drop_zero, List.drop_succ_cons, List.take_zero, List.take_succ_cons, Nat.zero_add, Nat.add_zero, Nat.reduceAdd, List.cons_append, List.nil_append, List.eraseIdx_cons_zero, List.eraseIdx_cons_succ])
  repeat (first | refine AI_seqk fun K hK => ?_ | refine AI_reg ?_ | ((first | refine wmv rfl ?_ | refine wag rfl ?_ | refine war _ rfl rfl rfl (by omega) (by omega) ?_ | refine wbn rfl rfl rfl ?_ | refine wnt rfl ?_ | refine wex rfl rfl ?_ | refine wpt rfl (by first | assumption | with_reducible rfl) rfl ?_ | refine wpf rfl (by first | assumption | with_reducible rfl) rfl ?_ | refine wpb rfl rfl rfl ?_ | refine wmf rfl ?_ | refine wnc rfl ?_ | refine wbq Try.underlying4 rfl rfl _ (.inr ⟨rfl, rfl⟩) ?_ | refine wbq Try.underlying4 rfl rfl _ (.inl ⟨rfl, rfl⟩) ?_); try dsimp only [st, List.set_cons_zero, List.set_cons_succ]) | ((first | refine AS_nil ?_ | refine AI_skip ?_ | refine AI_exit ?_); try simp only [AThen, ABlk, reduceIte, reduceCtorEq]) | ((first | refine hK _ _ ?_ | ((first | clear hK K | clear IH hK K); refine hK _ _ ?_) | ((first | clear hK K | clear IH hK K); (first | clear hK K | clear IH hK K); refine hK _ _ ?_) | ((first | clear hK K | clear IH hK K); (first | clear hK K | clear IH hK K); (first | clear hK K | clear IH hK K); refine hK _ _ ?_)); try (first | clear hK K | clear IH hK K)) | refine AI_cond_t rfl (by first | assumption | with_reducible rfl) ?_ | refine AI_cond_f rfl (by first | assumption | with_reducible rfl) ?_ | refine AS_gy rfl (by first | assumption | with_reducible rfl) ?_ | refine AS_gtn rfl (by first | assumption | with_reducible rfl) ?_ | refine AS_gfn rfl (by first | assumption | with_reducible rfl) ?_ | refine AI_block (AI_loop ?_) | refine AI_block ?_ | refine AI_ret ⟨_, rfl, ?_⟩)
  rw [t3]
  refine AS_op (OpR_index (s := tab8) Try.underlying9 rfl rfl (by omega) (by simpa using t1) ?_)
  try (dsimp only [st, setL, AV.cells, List.set_cons_zero, List.set_cons_succ, List.drop_zero, List.drop_succ_cons, List.take_zero, List.take_succ_cons, Nat.zero_add, Nat.add_zero, Nat.reduceAdd, List.cons_append, List.nil_append, List.eraseIdx_cons_zero, List.eraseIdx_cons_succ])
  repeat (first | refine AI_seqk fun K hK => ?_ | refine AI_reg ?_ | ((first | refine wmv rfl ?_ | refine wag rfl ?_ | refine war _ rfl rfl rfl (by omega) (by omega) ?_ | refine wbn rfl rfl rfl ?_ | refine wnt rfl ?_ | refine wex rfl rfl ?_ | refine wpt rfl (by first | assumption | with_reducible rfl) rfl ?_ | refine wpf rfl (by first | assumption | with_reducible rfl) rfl ?_ | refine wpb rfl rfl rfl ?_ | refine wmf rfl ?_ | refine wnc rfl ?_ | refine wbq Try.underlying4 rfl rfl _ (.inr ⟨rfl, rfl⟩) ?_ | refine wbq Try.underlying4 rfl rfl _ (.inl ⟨rfl, rfl⟩) ?_); try dsimp only [st, List.set_cons_zero, List.set_cons_succ]) | ((first | refine AS_nil ?_ | refine AI_skip ?_ | refine AI_exit ?_); try simp only [AThen, ABlk, reduceIte, reduceCtorEq]) | ((first | refine hK _ _ ?_ | ((first | clear hK K | clear IH hK K); refine hK _ _ ?_) | ((first | clear hK K | clear IH hK K); (first | clear hK K | clear IH hK K); refine hK _ _ ?_) | ((first | clear hK K | clear IH hK K); (first | clear hK K | clear IH hK K); (first | clear hK K | clear IH hK K); refine hK _ _ ?_)); try (first | clear hK K | clear IH hK K)) | refine AI_cond_t rfl (by first | assumption | with_reducible rfl) ?_ | refine AI_cond_f rfl (by first | assumption | with_reducible rfl) ?_ | refine AS_gy rfl (by first | assumption | with_reducible rfl) ?_ | refine AS_gtn rfl (by first | assumption | with_reducible rfl) ?_ | refine AS_gfn rfl (by first | assumption | with_reducible rfl) ?_ | refine AI_block (AI_loop ?_) | refine AI_block ?_ | refine AI_ret ⟨_, rfl, ?_⟩)
  refine AS_op (OpR_conv Try.underlying5 Try.underlying3 rfl ?_)
  try (dsimp only [st, setL, AV.cells, List.set_cons_zero, List.set_cons_succ, List.drop_zero, List.drop_succ_cons, List.take_zero, List.take_succ_cons, Nat.zero_add, Nat.add_zero, Nat.reduceAdd, List.cons_append, List.nil_append, List.eraseIdx_cons_zero, List.eraseIdx_cons_succ])
  repeat (first | refine AI_seqk fun K hK => ?_ | refine AI_reg ?_ | ((first | refine wmv rfl ?_ | refine wag rfl ?_ | refine war _ rfl rfl rfl (by omega) (by omega) ?_ | refine wbn rfl rfl rfl ?_ | refine wnt rfl ?_ | refine wex rfl rfl ?_ | refine wpt rfl (by first | assumption | with_reducible rfl) rfl ?_ | refine wpf rfl (by first | assumption | with_reducible rfl) rfl ?_ | refine wpb rfl rfl rfl ?_ | refine wmf rfl ?_ | refine wnc rfl ?_ | refine wbq Try.underlying4 rfl rfl _ (.inr ⟨rfl, rfl⟩) ?_ | refine wbq Try.underlying4 rfl rfl _ (.inl ⟨rfl, rfl⟩) ?_); try dsimp only [st, List.set_cons_zero, List.set_cons_succ]) | ((first | refine AS_nil ?_ | refine AI_skip ?_ | refine AI_exit ?_); try simp only [AThen, ABlk, reduceIte, reduceCtorEq]) | ((first | refine hK _ _ ?_ | ((first | clear hK K | clear IH hK K); refine hK _ _ ?_) | ((first | clear hK K | clear IH hK K); (first | clear hK K | clear IH hK K); refine hK _ _ ?_) | ((first | clear hK K | clear IH hK K); (first | clear hK K | clear IH hK K); (first | clear hK K | clear IH hK K); refine hK _ _ ?_)); try (first | clear hK K | clear IH hK K)) | refine AI_cond_t rfl (by first | assumption | with_reducible rfl) ?_ | refine AI_cond_f rfl (by first | assumption | with_reducible rfl) ?_ | refine AS_gy rfl (by first | assumption | with_reducible rfl) ?_ | refine AS_gtn rfl (by first | assumption | with_reducible rfl) ?_ | refine AS_gfn rfl (by first | assumption | with_reducible rfl) ?_ | refine AI_block (AI_loop ?_) | refine AI_block ?_ | refine AI_ret ⟨_, rfl, ?_⟩)
  rw [t2]
  have hb := lenT_bd k.val
  repeat (first | refine AI_seqk fun K hK => ?_ | refine AI_reg ?_ | ((first | refine wmv rfl ?_ | refine wag rfl ?_ | refine war _ rfl rfl rfl (by omega) (by omega) ?_ | refine wbn rfl rfl rfl ?_ | refine wnt rfl ?_ | refine wex rfl rfl ?_ | refine wpt rfl (by first | assumption | with_reducible rfl) rfl ?_ | refine wpf rfl (by first | assumption | with_reducible rfl) rfl ?_ | refine wpb rfl rfl rfl ?_ | refine wmf rfl ?_ | refine wnc rfl ?_ | refine wbq Try.underlying4 rfl rfl _ (.inr ⟨rfl, rfl⟩) ?_ | refine wbq Try.underlying4 rfl rfl _ (.inl ⟨rfl, rfl⟩) ?_); try dsimp only [st, List.set_cons_zero, List.set_cons_succ]) | ((first | refine AS_nil ?_ | refine AI_skip ?_ | refine AI_exit ?_); try simp only [AThen, ABlk, reduceIte, reduceCtorEq]) | ((first | refine hK _ _ ?_ | ((first | clear hK K | clear IH hK K); refine hK _ _ ?_) | ((first | clear hK K | clear IH hK K); (first | clear hK K | clear IH hK K); refine hK _ _ ?_) | ((first | clear hK K | clear IH hK K); (first | clear hK K | clear IH hK K); (first | clear hK K | clear IH hK K); refine hK _ _ ?_)); try (first | clear hK K | clear IH hK K)) | refine AI_cond_t rfl (by first | assumption | with_reducible rfl) ?_ | refine AI_cond_f rfl (by first | assumption | with_reducible rfl) ?_ | refine AS_gy rfl (by first | assumption | with_reducible rfl) ?_ | refine AS_gtn rfl (by first | assumption | with_reducible rfl) ?_ | refine AS_gfn rfl (by first | assumption | with_reducible rfl) ?_ | refine AI_block (AI_loop ?_) | refine AI_block ?_ | refine AI_ret ⟨_, rfl, ?_⟩)
  exact ⟨by simp only [oneA, Int.zero_add, show IntKind.i64.wrap (lenT k.val) = lenT k.val from IntWalk.i64_in _ (by omega)], rfl⟩

theorem Len_ac (x : Int) (h : AH) (h0 : 0 ≤ x) (h1 : x < 256) : AC Try.prog 83 [.i .u64 x] h (fun v h' => v = .i .i64 (lenT x) ∧ h = h') := by
  refine e83 _ fun wf => ?_
  unfold c83
  repeat (first | refine AI_seqk fun K hK => ?_ | refine AI_reg ?_ | ((first | refine wmv rfl ?_ | refine wag rfl ?_ | refine war _ rfl rfl rfl (by omega) (by omega) ?_ | refine wbn rfl rfl rfl ?_ | refine wnt rfl ?_ | refine wex rfl rfl ?_ | refine wpt rfl (by first | assumption | with_reducible rfl) rfl ?_ | refine wpf rfl (by first | assumption | with_reducible rfl) rfl ?_ | refine wpb rfl rfl rfl ?_ | refine wmf rfl ?_ | refine wnc rfl ?_ | refine wbq Try.underlying4 rfl rfl _ (.inr ⟨rfl, rfl⟩) ?_ | refine wbq Try.underlying4 rfl rfl _ (.inl ⟨rfl, rfl⟩) ?_); try dsimp only [st, List.set_cons_zero, List.set_cons_succ]) | ((first | refine AS_nil ?_ | refine AI_skip ?_ | refine AI_exit ?_); try simp only [AThen, ABlk, reduceIte, reduceCtorEq]) | ((first | refine hK _ _ ?_ | ((first | clear hK K | clear IH hK K); refine hK _ _ ?_) | ((first | clear hK K | clear IH hK K); (first | clear hK K | clear IH hK K); refine hK _ _ ?_) | ((first | clear hK K | clear IH hK K); (first | clear hK K | clear IH hK K); (first | clear hK K | clear IH hK K); refine hK _ _ ?_)); try (first | clear hK K | clear IH hK K)) | refine AI_cond_t rfl (by first | assumption | with_reducible rfl) ?_ | refine AI_cond_f rfl (by first | assumption | with_reducible rfl) ?_ | refine AS_gy rfl (by first | assumption | with_reducible rfl) ?_ | refine AS_gtn rfl (by first | assumption | with_reducible rfl) ?_ | refine AS_gfn rfl (by first | assumption | with_reducible rfl) ?_ | refine AI_block (AI_loop ?_) | refine AI_block ?_ | refine AI_ret ⟨_, rfl, ?_⟩)
  refine AS_op (OpR_call rfl rfl (Len64_ac x _ h0 h1) ?_)
  rintro _ _ wf1 ⟨rfl, rfl⟩
  try (dsimp only [st, setL, AV.cells, List.set_cons_zero, List.set_cons_succ, List.drop_zero, List.drop_succ_cons, List.take_zero, List.take_succ_cons, Nat.zero_add, Nat.add_zero, Nat.reduceAdd, List.cons_append, List.nil_append, List.eraseIdx_cons_zero, List.eraseIdx_cons_succ])
  repeat (first | refine AI_seqk fun K hK => ?_ | refine AI_reg ?_ | ((first | refine wmv rfl ?_ | refine wag rfl ?_ | refine war _ rfl rfl rfl (by omega) (by omega) ?_ | refine wbn rfl rfl rfl ?_ | refine wnt rfl ?_ | refine wex rfl rfl ?_ | refine wpt rfl (by first | assumption | with_reducible rfl) rfl ?_ | refine wpf rfl (by first | assumption | with_reducible rfl) rfl ?_ | refine wpb rfl rfl rfl ?_ | refine wmf rfl ?_ | refine wnc rfl ?_ | refine wbq Try.underlying4 rfl rfl _ (.inr ⟨rfl, rfl⟩) ?_ | refine wbq Try.underlying4 rfl rfl _ (.inl ⟨rfl, rfl⟩) ?_); try dsimp only [st, List.set_cons_zero, List.set_cons_succ]) | ((first | refine AS_nil ?_ | refine AI_skip ?_ | refine AI_exit ?_); try simp only [AThen, ABlk, reduceIte, reduceCtorEq]) | ((first | refine hK _ _ ?_ | ((first | clear hK K | clear IH hK K); refine hK _ _ ?_) | ((first | clear hK K | clear IH hK K); (first | clear hK K | clear IH hK K); refine hK _ _ ?_) | ((first | clear hK K | clear IH hK K); (first | clear hK K | clear IH hK K); (first | clear hK K | clear IH hK K); refine hK _ _ ?_)); try (first | clear hK K | clear IH hK K)) | refine AI_cond_t rfl (by first | assumption | with_reducible rfl) ?_ | refine AI_cond_f rfl (by first | assumption | with_reducible rfl) ?_ | refine AS_gy rfl (by first | assumption | with_reducible rfl) ?_ | refine AS_gtn rfl (by first | assumption | with_reducible rfl) ?_ | refine AS_gfn rfl (by first | assumption | with_reducible rfl) ?_ | refine AI_block (AI_loop ?_) | refine AI_block ?_ | refine AI_ret ⟨_, rfl, ?_⟩)
  exact ⟨rfl, rfl⟩

abbrev uand (x y : Int) : Int := IntKind.u64.wrap (BitVec.ofInt IntKind.u64.bits x &&& BitVec.ofInt IntKind.u64.bits y).toNat

def oc1 (x : Int) : Int := IntKind.u64.wrap (uand (x.fdiv (2 ^ min (1 : Int).toNat IntKind.u64.bits)) 6148914691236517205 + uand x 6148914691236517205)

def oc2 (x : Int) : Int := IntKind.u64.wrap (uand (x.fdiv (2 ^ min (2 : Int).toNat IntKind.u64.bits)) 3689348814741910323 + uand x 3689348814741910323)

def oc3 (x : Int) : Int := uand (IntKind.u64.wrap (x.fdiv (2 ^ min (4 : Int).toNat IntKind.u64.bits) + x)) 1085102592571150095

def oc4 (x : Int) : Int := IntKind.u64.wrap (x + x.fdiv (2 ^ min (8 : Int).toNat IntKind.u64.bits))

def oc5 (x : Int) : Int := IntKind.u64.wrap (x + x.fdiv (2 ^ min (16 : Int).toNat IntKind.u64.bits))

def oc6 (x : Int) : Int := IntKind.u64.wrap (x + x.fdiv (2 ^ min (32 : Int).toNat IntKind.u64.bits))

def ocT (x : Int) : Int := IntKind.i64.wrap (BitVec.ofInt IntKind.i64.bits (IntKind.i64.wrap (oc6 (oc5 (oc4 (oc3 (oc2 (oc1 x))))))) &&& BitVec.ofInt IntKind.i64.bits 127).toNat

theorem OnesCount64_ac (x : Int) (h : AH) : AC Try.prog 101 [.i .u64 x] h (fun v h' => v = .i .i64 (ocT x) ∧ h = h') := by
  refine e101 _ fun wf => ?_
  unfold c101
  repeat (first | refine AI_seqk fun K hK => ?_ | refine AI_reg ?_ | ((first | refine wmv rfl ?_ | refine wag rfl ?_ | refine war _ rfl rfl rfl (by omega) (by omega) ?_ | refine wbn rfl rfl rfl ?_ | refine wnt rfl ?_ | refine wex rfl rfl ?_ | refine wpt rfl (by first | assumption | with_reducible rfl) rfl ?_ | refine wpf rfl (by first | assumption | with_reducible rfl) rfl ?_ | refine wpb rfl rfl rfl ?_ | refine wmf rfl ?_ | refine wnc rfl ?_ | refine wbq Try.underlying4 rfl rfl _ (.inr ⟨rfl, rfl⟩) ?_ | refine wbq Try.underlying4 rfl rfl _ (.inl ⟨rfl, rfl⟩) ?_); try dsimp only [st, List.set_cons_zero, List.set_cons_succ]) | ((first | refine AS_nil ?_ | refine AI_skip ?_ | refine AI_exit ?_); try simp only [AThen, ABlk, reduceIte, reduceCtorEq]) | ((first | refine hK _ _ ?_ | ((first | clear hK K | clear IH hK K); refine hK _ _ ?_) | ((first | clear hK K | clear IH hK K); (first | clear hK K | clear IH hK K); refine hK _ _ ?_) | ((first | clear hK K | clear IH hK K); (first | clear hK K | clear IH hK K); (first | clear hK K | clear IH hK K); refine hK _ _ ?_)); try (first | clear hK K | clear IH hK K)) | refine AI_cond_t rfl (by first | assumption | with_reducible rfl) ?_ | refine AI_cond_f rfl (by first | assumption | with_reducible rfl) ?_ | refine AS_gy rfl (by first | assumption | with_reducible rfl) ?_ | refine AS_gtn rfl (by first | assumption | with_reducible rfl) ?_ | refine AS_gfn rfl (by first | assumption | with_reducible rfl) ?_ | refine AI_block (AI_loop ?_) | refine AI_block ?_ | refine AI_ret ⟨_, rfl, ?_⟩)
  refine AS_op (OpR_shr rfl rfl (by omega) ?_)
  try (dsimp only [st, setL, AV.cells, List.set_cons_zero, List.set_cons_succ, List.drop_zero, List.drop_succ_cons, List.take_zero, List.take_succ_cons, Nat.zero_add, Nat.add_zero, Nat.reduceAdd, List.cons_append, List.nil_append, List.eraseIdx_cons_zero, List.eraseIdx_cons_succ])
  repeat (first | refine AI_seqk fun K hK => ?_ | refine AI_reg ?_ | ((first | refine wmv rfl ?_ | refine wag rfl ?_ | refine war _ rfl rfl rfl (by omega) (by omega) ?_ | refine wbn rfl rfl rfl ?_ | refine wnt rfl ?_ | refine wex rfl rfl ?_ | refine wpt rfl (by first | assumption | with_reducible rfl) rfl ?_ | refine wpf rfl (by first | assumption | with_reducible rfl) rfl ?_ | refine wpb rfl rfl rfl ?_ | refine wmf rfl ?_ | refine wnc rfl ?_ | refine wbq Try.underlying4 rfl rfl _ (.inr ⟨rfl, rfl⟩) ?_ | refine wbq Try.underlying4 rfl rfl _ (.inl ⟨rfl, rfl⟩) ?_); try dsimp only [st, List.set_cons_zero, List.set_cons_succ]) | ((first | refine AS_nil ?_ | refine AI_skip ?_ | refine AI_exit ?_); try simp only [AThen, ABlk, reduceIte, reduceCtorEq]) | ((first | refine hK _ _ ?_ | ((first | clear hK K | clear IH hK K); refine hK _ _ ?_) | ((first | clear hK K | clear IH hK K); (first | clear hK K | clear IH hK K); refine hK _ _ ?_) | ((first | clear hK K | clear IH hK K); (first | clear hK K | clear IH hK K); (first | clear hK K | clear IH hK K); refine hK _ _ ?_)); try (first | clear hK K | clear IH hK K)) | refine AI_cond_t rfl (by first | assumption | with_reducible rfl) ?_ | refine AI_cond_f rfl (by first | assumption | with_reducible rfl) ?_ | refine AS_gy rfl (by first | assumption | with_reducible rfl) ?_ | refine AS_gtn rfl (by first | assumption | with_reducible rfl) ?_ | refine AS_gfn rfl (by first | assumption | with_reducible rfl) ?_ | refine AI_block (AI_loop ?_) | refine AI_block ?_ | refine AI_ret ⟨_, rfl, ?_⟩)
  rw [show IntKind.u64.wrap (uand (x.fdiv (2 ^ min (1 : Int).toNat IntKind.u64.bits)) 6148914691236517205 + uand x 6148914691236517205) = oc1 x from rfl]
  generalize hy1 : oc1 x = y1
  repeat (first | refine AI_seqk fun K hK => ?_ | refine AI_reg ?_ | ((first | refine wmv rfl ?_ | refine wag rfl ?_ | refine war _ rfl rfl rfl (by omega) (by omega) ?_ | refine wbn rfl rfl rfl ?_ | refine wnt rfl ?_ | refine wex rfl rfl ?_ | refine wpt rfl (by first | assumption | with_reducible rfl) rfl ?_ | refine wpf rfl (by first | assumption | with_reducible rfl) rfl ?_ | refine wpb rfl rfl rfl ?_ | refine wmf rfl ?_ | refine wnc rfl ?_ | refine wbq Try.underlying4 rfl rfl _ (.inr ⟨rfl, rfl⟩) ?_ | refine wbq Try.underlying4 rfl rfl _ (.inl ⟨rfl, rfl⟩) ?_); try dsimp only [st, List.set_cons_zero, List.set_cons_succ]) | ((first | refine AS_nil ?_ | refine AI_skip ?_ | refine AI_exit ?_); try simp only [AThen, ABlk, reduceIte, reduceCtorEq]) | ((first | refine hK _ _ ?_ | ((first | clear hK K | clear IH hK K); refine hK _ _ ?_) | ((first | clear hK K | clear IH hK K); (first | clear hK K | clear IH hK K); refine hK _ _ ?_) | ((first | clear hK K | clear IH hK K); (first | clear hK K | clear IH hK K); (first | clear hK K | clear IH hK K); refine hK _ _ ?_)); try (first | clear hK K | clear IH hK K)) | refine AI_cond_t rfl (by first | assumption | with_reducible rfl) ?_ | refine AI_cond_f rfl (by first | assumption | with_reducible rfl) ?_ | refine AS_gy rfl (by first | assumption | with_reducible rfl) ?_ | refine AS_gtn rfl (by first | assumption | with_reducible rfl) ?_ | refine AS_gfn rfl (by first | assumption | with_reducible rfl) ?_ | refine AI_block (AI_loop ?_) | refine AI_block ?_ | refine AI_ret ⟨_, rfl, ?_⟩)
  refine AS_op (OpR_shr rfl rfl (by omega) ?_)
  try (dsimp only [st, setL, AV.cells, List.set_cons_zero, List.set_cons_succ, List.drop_zero, List.drop_succ_cons, List.take_zero, List.take_succ_cons, Nat.zero_add, Nat.add_zero, Nat.reduceAdd, List.cons_append, List.nil_append, List.eraseIdx_cons_zero, List.eraseIdx_cons_succ])
  repeat (first | refine AI_seqk fun K hK => ?_ | refine AI_reg ?_ | ((first | refine wmv rfl ?_ | refine wag rfl ?_ | refine war _ rfl rfl rfl (by omega) (by omega) ?_ | refine wbn rfl rfl rfl ?_ | refine wnt rfl ?_ | refine wex rfl rfl ?_ | refine wpt rfl (by first | assumption | with_reducible rfl) rfl ?_ | refine wpf rfl (by first | assumption | with_reducible rfl) rfl ?_ | refine wpb rfl rfl rfl ?_ | refine wmf rfl ?_ | refine wnc rfl ?_ | refine wbq Try.underlying4 rfl rfl _ (.inr ⟨rfl, rfl⟩) ?_ | refine wbq Try.underlying4 rfl rfl _ (.inl ⟨rfl, rfl⟩) ?_); try dsimp only [st, List.set_cons_zero, List.set_cons_succ]) | ((first | refine AS_nil ?_ | refine AI_skip ?_ | refine AI_exit ?_); try simp only [AThen, ABlk, reduceIte, reduceCtorEq]) | ((first | refine hK _ _ ?_ | ((first | clear hK K | clear IH hK K); refine hK _ _ ?_) | ((first | clear hK K | clear IH hK K); (first | clear hK K | clear IH hK K); refine hK _ _ ?_) | ((first | clear hK K | clear IH hK K); (first | clear hK K | clear IH hK K); (first | clear hK K | clear IH hK K); refine hK _ _ ?_)); try (first | clear hK K | clear IH hK K)) | refine AI_cond_t rfl (by first | assumption | with_reducible rfl) ?_ | refine AI_cond_f rfl (by first | assumption | with_reducible rfl) ?_ | refine AS_gy rfl (by first | assumption | with_reducible rfl) ?_ | refine AS_gtn rfl (by first | assumption | with_reducible rfl) ?_ | refine AS_gfn rfl (by first | assumption | with_reducible rfl) ?_ | refine AI_block (AI_loop ?_) | refine AI_block ?_ | refine AI_ret ⟨_, rfl, ?_⟩)
  rw [show IntKind.u64.wrap (uand (y1.fdiv (2 ^ min (2 : Int).toNat IntKind.u64.bits)) 3689348814741910323 + uand y1 3689348814741910323) = oc2 y1 from rfl]
  generalize hy2 : oc2 y1 = y2
  repeat (first | refine AI_seqk fun K hK => ?_ | refine AI_reg ?_ | ((first | refine wmv rfl ?_ | refine wag rfl ?_ | refine war _ rfl rfl rfl (by omega) (by omega) ?_ | refine wbn rfl rfl rfl ?_ | refine wnt rfl ?_ | refine wex rfl rfl ?_ | refine wpt rfl (by first | assumption | with_reducible rfl) rfl ?_ | refine wpf rfl (by first | assumption | with_reducible rfl) rfl ?_ | refine wpb rfl rfl rfl ?_ | refine wmf rfl ?_ | refine wnc rfl ?_ | refine wbq Try.underlying4 rfl rfl _ (.inr ⟨rfl, rfl⟩) ?_ | refine wbq Try.underlying4 rfl rfl _ (.inl ⟨rfl, rfl⟩) ?_); try dsimp only [st, List.set_cons_zero, List.set_cons_succ]) | ((first | refine AS_nil ?_ | refine AI_skip ?_ | refine AI_exit ?_); try simp only [AThen, ABlk, reduceIte, reduceCtorEq]) | ((first | refine hK _ _ ?_ | ((first | clear hK K | clear IH hK K); refine hK _ _ ?_) | ((first | clear hK K | clear IH hK K); (first | clear hK K | clear IH hK K); refine hK _ _ ?_) | ((first | clear hK K | clear IH hK K); (first | clear hK K | clear IH hK K); (first | clear hK K | clear IH hK K); refine hK _ _ ?_)); try (first | clear hK K | clear IH hK K)) | refine AI_cond_t rfl (by first | assumption | with_reducible rfl) ?_ | refine AI_cond_f rfl (by first | assumption | with_reducible rfl) ?_ | refine AS_gy rfl (by first | assumption | with_reducible rfl) ?_ | refine AS_gtn rfl (by first | assumption | with_reducible rfl) ?_ | refine AS_gfn rfl (by first | assumption | with_reducible rfl) ?_ | refine AI_block (AI_loop ?_) | refine AI_block ?_ | refine AI_ret ⟨_, rfl, ?_⟩)
  refine AS_op (OpR_shr rfl rfl (by omega) ?_)
  try (dsimp only [st, setL, AV.cells, List.set_cons_zero, List.set_cons_succ, List.drop_zero, List.drop_succ_cons, List.take_zero, List.take_succ_cons, Nat.zero_add, Nat.add_zero, Nat.reduceAdd, List.cons_append, List.nil_append, List.eraseIdx_cons_zero, List.eraseIdx_cons_succ])
  repeat (first | refine AI_seqk fun K hK => ?_ | refine AI_reg ?_ | ((first | refine wmv rfl ?_ | refine wag rfl ?_ | refine war _ rfl rfl rfl (by omega) (by omega) ?_ | refine wbn rfl rfl rfl ?_ | refine wnt rfl ?_ | refine wex rfl rfl ?_ | refine wpt rfl (by first | assumption | with_reducible rfl) rfl ?_ | refine wpf rfl (by first | assumption | with_reducible rfl) rfl ?_ | refine wpb rfl rfl rfl ?_ | refine wmf rfl ?_ | refine wnc rfl ?_ | refine wbq Try.underlying4 rfl rfl _ (.inr ⟨rfl, rfl⟩) ?_ | refine wbq Try.underlying4 rfl rfl _ (.inl ⟨rfl, rfl⟩) ?_); try dsimp only [st, List.set_cons_zero, List.set_cons_succ]) | ((first | refine AS_nil ?_ | refine AI_skip ?_ | refine AI_exit ?_); try simp only [AThen, ABlk, reduceIte, reduceCtorEq]) | ((first | refine hK _ _ ?_ | ((first | clear hK K | clear IH hK K); refine hK _ _ ?_) | ((first | clear hK K | clear IH hK K); (first | clear hK K | clear IH hK K); refine hK _ _ ?_) | ((first | clear hK K | clear IH hK K); (first | clear hK K | clear IH hK K); (first | clear hK K | clear IH hK K); refine hK _ _ ?_)); try (first | clear hK K | clear IH hK K)) | refine AI_cond_t rfl (by first | assumption | with_reducible rfl) ?_ | refine AI_cond_f rfl (by first | assumption | with_reducible rfl) ?_ | refine AS_gy rfl (by first | assumption | with_reducible rfl) ?_ | refine AS_gtn rfl (by first | assumption | with_reducible rfl) ?_ | refine AS_gfn rfl (by first | assumption | with_reducible rfl) ?_ | refine AI_block (AI_loop ?_) | refine AI_block ?_ | refine AI_ret ⟨_, rfl, ?_⟩)
  rw [show IntKind.u64.wrap (BitVec.ofInt IntKind.u64.bits (IntKind.u64.wrap (y2.fdiv (2 ^ min (4 : Int).toNat IntKind.u64.bits) + y2)) &&& BitVec.ofInt IntKind.u64.bits 1085102592571150095).toNat = oc3 y2 from rfl]
  generalize hy3 : oc3 y2 = y3
  repeat (first | refine AI_seqk fun K hK => ?_ | refine AI_reg ?_ | ((first | refine wmv rfl ?_ | refine wag rfl ?_ | refine war _ rfl rfl rfl (by omega) (by omega) ?_ | refine wbn rfl rfl rfl ?_ | refine wnt rfl ?_ | refine wex rfl rfl ?_ | refine wpt rfl (by first | assumption | with_reducible rfl) rfl ?_ | refine wpf rfl (by first | assumption | with_reducible rfl) rfl ?_ | refine wpb rfl rfl rfl ?_ | refine wmf rfl ?_ | refine wnc rfl ?_ | refine wbq Try.underlying4 rfl rfl _ (.inr ⟨rfl, rfl⟩) ?_ | refine wbq Try.underlying4 rfl rfl _ (.inl ⟨rfl, rfl⟩) ?_); try dsimp only [st, List.set_cons_zero, List.set_cons_succ]) | ((first | refine AS_nil ?_ | refine AI_skip ?_ | refine AI_exit ?_); try simp only [AThen, ABlk, reduceIte, reduceCtorEq]) | ((first | refine hK _ _ ?_ | ((first | clear hK K | clear IH hK K); refine hK _ _ ?_) | ((first | clear hK K | clear IH hK K); (first | clear hK K | clear IH hK K); refine hK _ _ ?_) | ((first | clear hK K | clear IH hK K); (first | clear hK K | clear IH hK K); (first | clear hK K | clear IH hK K); refine hK _ _ ?_)); try (first | clear hK K | clear IH hK K)) | refine AI_cond_t rfl (by first | assumption | with_reducible rfl) ?_ | refine AI_cond_f rfl (by first | assumption | with_reducible rfl) ?_ | refine AS_gy rfl (by first | assumption | with_reducible rfl) ?_ | refine AS_gtn rfl (by first | assumption | with_reducible rfl) ?_ | refine AS_gfn rfl (by first | assumption | with_reducible rfl) ?_ | refine AI_block (AI_loop ?_) | refine AI_block ?_ | refine AI_ret ⟨_, rfl, ?_⟩)
  refine AS_op (OpR_shr rfl rfl (by omega) ?_)
  try (dsimp only [st, setL, AV.cells, List.set_cons_zero, List.set_cons_succ, List.drop_zero, List.drop_succ_cons, List.take_zero, List.take_succ_cons, Nat.zero_add, Nat.add_zero, Nat.reduceAdd, List.cons_append, List.nil_append, List.eraseIdx_cons_zero, List.eraseIdx_cons_succ])
  repeat (first | refine AI_seqk fun K hK => ?_ | refine AI_reg ?_ | ((first | refine wmv rfl ?_ | refine wag rfl ?_ | refine war _ rfl rfl rfl (by omega) (by omega) ?_ | refine wbn rfl rfl rfl ?_ | refine wnt rfl ?_ | refine wex rfl rfl ?_ | refine wpt rfl (by first | assumption | with_reducible rfl) rfl ?_ | refine wpf rfl (by first | assumption | with_reducible rfl) rfl ?_ | refine wpb rfl rfl rfl ?_ | refine wmf rfl ?_ | refine wnc rfl ?_ | refine wbq Try.underlying4 rfl rfl _ (.inr ⟨rfl, rfl⟩) ?_ | refine wbq Try.underlying4 rfl rfl _ (.inl ⟨rfl, rfl⟩) ?_); try dsimp only [st, List.set_cons_zero, List.set_cons_succ]) | ((first | refine AS_nil ?_ | refine AI_skip ?_ | refine AI_exit ?_); try simp only [AThen, ABlk, reduceIte, reduceCtorEq]) | ((first | refine hK _ _ ?_ | ((first | clear hK K | clear IH hK K); refine hK _ _ ?_) | ((first | clear hK K | clear IH hK K); (first | clear hK K | clear IH hK K); refine hK _ _ ?_) | ((first | clear hK K | clear IH hK K); (first | clear hK K | clear IH hK K); (first | clear hK K | clear IH hK K); refine hK _ _ ?_)); try (first | clear hK K | clear IH hK K)) | refine AI_cond_t rfl (by first | assumption | with_reducible rfl) ?_ | refine AI_cond_f rfl (by first | assumption | with_reducible rfl) ?_ | refine AS_gy rfl (by first | assumption | with_reducible rfl) ?_ | refine AS_gtn rfl (by first | assumption | with_reducible rfl) ?_ | refine AS_gfn rfl (by first | assumption | with_reducible rfl) ?_ | refine AI_block (AI_loop ?_) | refine AI_block ?_ | refine AI_ret ⟨_, rfl, ?_⟩)
  rw [show IntKind.u64.wrap (y3 + y3.fdiv (2 ^ min (8 : Int).toNat IntKind.u64.bits)) = oc4 y3 from rfl]
  generalize hy4 : oc4 y3 = y4
  repeat (first | refine AI_seqk fun K hK => ?_ | refine AI_reg ?_ | ((first | refine wmv rfl ?_ | refine wag rfl ?_ | refine war _ rfl rfl rfl (by omega) (by omega) ?_ | refine wbn rfl rfl rfl ?_ | refine wnt rfl ?_ | refine wex rfl rfl ?_ | refine wpt rfl (by first | assumption | with_reducible rfl) rfl ?_ | refine wpf rfl (by first | assumption | with_reducible rfl) rfl ?_ | refine wpb rfl rfl rfl ?_ | refine wmf rfl ?_ | refine wnc rfl ?_ | refine wbq Try.underlying4 rfl rfl _ (.inr ⟨rfl, rfl⟩) ?_ | refine wbq Try.underlying4 rfl rfl _ (.inl ⟨rfl, rfl⟩) ?_); try dsimp only [st, List.set_cons_zero, List.set_cons_succ]) | ((first | refine AS_nil ?_ | refine AI_skip ?_ | refine AI_exit ?_); try simp only [AThen, ABlk, reduceIte, reduceCtorEq]) | ((first | refine hK _ _ ?_ | ((first | clear hK K | clear IH hK K); refine hK _ _ ?_) | ((first | clear hK K | clear IH hK K); (first | clear hK K | clear IH hK K); refine hK _ _ ?_) | ((first | clear hK K | clear IH hK K); (first | clear hK K | clear IH hK K); (first | clear hK K | clear IH hK K); refine hK _ _ ?_)); try (first | clear hK K | clear IH hK K)) | refine AI_cond_t rfl (by first | assumption | with_reducible rfl) ?_ | refine AI_cond_f rfl (by first | assumption | with_reducible rfl) ?_ | refine AS_gy rfl (by first | assumption | with_reducible rfl) ?_ | refine AS_gtn rfl (by first | assumption | with_reducible rfl) ?_ | refine AS_gfn rfl (by first | assumption | with_reducible rfl) ?_ | refine AI_block (AI_loop ?_) | refine AI_block ?_ | refine AI_ret ⟨_, rfl, ?_⟩)
  refine AS_op (OpR_shr rfl rfl (by omega) ?_)
  try (dsimp only [st, setL, AV.cells, List.set_cons_zero, List.set_cons_succ, List.drop_zero, List.drop_succ_cons, List.take_zero, List.take_succ_cons, Nat.zero_add, Nat.add_zero, Nat.reduceAdd, List.cons_append, List.nil_append, List.eraseIdx_cons_zero, List.eraseIdx_cons_succ])
  repeat (first | refine AI_seqk fun K hK => ?_ | refine AI_reg ?_ | ((first | refine wmv rfl ?_ | refine wag rfl ?_ | refine war _ rfl rfl rfl (by omega) (by omega) ?_ | refine wbn rfl rfl rfl ?_ | refine wnt rfl ?_ | refine wex rfl rfl ?_ | refine wpt rfl (by first | assumption | with_reducible rfl) rfl ?_ | refine wpf rfl (by first | assumption | with_reducible rfl) rfl ?_ | refine wpb rfl rfl rfl ?_ | refine wmf rfl ?_ | refine wnc rfl ?_ | refine wbq Try.underlying4 rfl rfl _ (.inr ⟨rfl, rfl⟩) ?_ | refine wbq Try.underlying4 rfl rfl _ (.inl ⟨rfl, rfl⟩) ?_); try dsimp only [st, List.set_cons_zero, List.set_cons_succ]) | ((first | refine AS_nil ?_ | refine AI_skip ?_ | refine AI_exit ?_); try simp only [AThen, ABlk, reduceIte, reduceCtorEq]) | ((first | refine hK _ _ ?_ | ((first | clear hK K | clear IH hK K); refine hK _ _ ?_) | ((first | clear hK K | clear IH hK K); (first | clear hK K | clear IH hK K); refine hK _ _ ?_) | ((first | clear hK K | clear IH hK K); (first | clear hK K | clear IH hK K); (first | clear hK K | clear IH hK K); refine hK _ _ ?_)); try (first | clear hK K | clear IH hK K)) | refine AI_cond_t rfl (by first | assumption | with_reducible rfl) ?_ | refine AI_cond_f rfl (by first | assumption | with_reducible rfl) ?_ | refine AS_gy rfl (by first | assumption | with_reducible rfl) ?_ | refine AS_gtn rfl (by first | assumption | with_reducible rfl) ?_ | refine AS_gfn rfl (by first | assumption | with_reducible rfl) ?_ | refine AI_block (AI_loop ?_) | refine AI_block ?_ | refine AI_ret ⟨_, rfl, ?_⟩)
  rw [show IntKind.u64.wrap (y4 + y4.fdiv (2 ^ min (16 : Int).toNat IntKind.u64.bits)) = oc5 y4 from rfl]
  generalize hy5 : oc5 y4 = y5
  repeat (first | refine AI_seqk fun K hK => ?_ | refine AI_reg ?_ | ((first | refine wmv rfl ?_ | refine wag rfl ?_ | refine war _ rfl rfl rfl (by omega) (by omega) ?_ | refine wbn rfl rfl rfl ?_ | refine wnt rfl ?_ | refine wex rfl rfl ?_ | refine wpt rfl (by first | assumption | with_reducible rfl) rfl ?_ | refine wpf rfl (by first | assumption | with_reducible rfl) rfl ?_ | refine wpb rfl rfl rfl ?_ | refine wmf rfl ?_ | refine wnc rfl ?_ | refine wbq Try.underlying4 rfl rfl _ (.inr ⟨rfl, rfl⟩) ?_ | refine wbq Try.underlying4 rfl rfl _ (.inl ⟨rfl, rfl⟩) ?_); try dsimp only [st, List.set_cons_zero, List.set_cons_succ]) | ((first | refine AS_nil ?_ | refine AI_skip ?_ | refine AI_exit ?_); try simp only [AThen, ABlk, reduceIte, reduceCtorEq]) | ((first | refine hK _ _ ?_ | ((first | clear hK K | clear IH hK K); refine hK _ _ ?_) | ((first | clear hK K | clear IH hK K); (first | clear hK K | clear IH hK K); refine hK _ _ ?_) | ((first | clear hK K | clear IH hK K); (first | clear hK K | clear IH hK K); (first | clear hK K | clear IH hK K); refine hK _ _ ?_)); try (first | clear hK K | clear IH hK K)) | refine AI_cond_t rfl (by first | assumption | with_reducible rfl) ?_ | refine AI_cond_f rfl (by first | assumption | with_reducible rfl) ?_ | refine AS_gy rfl (by first | assumption | with_reducible rfl) ?_ | refine AS_gtn rfl (by first | assumption | with_reducible rfl) ?_ | refine AS_gfn rfl (by first | assumption | with_reducible rfl) ?_ | refine AI_block (AI_loop ?_) | refine AI_block ?_ | refine AI_ret ⟨_, rfl, ?_⟩)
  refine AS_op (OpR_shr rfl rfl (by omega) ?_)
  try (dsimp only [st, setL, AV.cells, List.set_cons_zero, List.set_cons_succ, List.drop_zero, List.drop_succ_cons, List.take_zero, List.take_succ_cons, Nat.zero_add, Nat.add_zero, Nat.reduceAdd, List.cons_append, List.nil_append, List.eraseIdx_cons_zero, List.eraseIdx_cons_succ])
  repeat (first | refine AI_seqk fun K hK => ?_ | refine AI_reg ?_ | ((first | refine wmv rfl ?_ | refine wag rfl ?_ | refine war _ rfl rfl rfl (by omega) (by omega) ?_ | refine wbn rfl rfl rfl ?_ | refine wnt rfl ?_ | refine wex rfl rfl ?_ | refine wpt rfl (by first | assumption | with_reducible rfl) rfl ?_ | refine wpf rfl (by first | assumption | with_reducible rfl) rfl ?_ | refine wpb rfl rfl rfl ?_ | refine wmf rfl ?_ | refine wnc rfl ?_ | refine wbq Try.underlying4 rfl rfl _ (.inr ⟨rfl, rfl⟩) ?_ | refine wbq Try.underlying4 rfl rfl _ (.inl ⟨rfl, rfl⟩) ?_); try dsimp only [st, List.set_cons_zero, List.set_cons_succ]) | ((first | refine AS_nil ?_ | refine AI_skip ?_ | refine AI_exit ?_); try simp only [AThen, ABlk, reduceIte, reduceCtorEq]) | ((first | refine hK _ _ ?_ | ((first | clear hK K | clear IH hK K); refine hK _ _ ?_) | ((first | clear hK K | clear IH hK K); (first | clear hK K | clear IH hK K); refine hK _ _ ?_) | ((first | clear hK K | clear IH hK K); (first | clear hK K | clear IH hK K); (first | clear hK K | clear IH hK K); refine hK _ _ ?_)); try (first | clear hK K | clear IH hK K)) | refine AI_cond_t rfl (by first | assumption | with_reducible rfl) ?_ | refine AI_cond_f rfl (by first | assumption | with_reducible rfl) ?_ | refine AS_gy rfl (by first | assumption | with_reducible rfl) ?_ | refine AS_gtn rfl (by first | assumption | with_reducible rfl) ?_ | refine AS_gfn rfl (by first | assumption | with_reducible rfl) ?_ | refine AI_block (AI_loop ?_) | refine AI_block ?_ | refine AI_ret ⟨_, rfl, ?_⟩)
  rw [show IntKind.u64.wrap (y5 + y5.fdiv (2 ^ min (32 : Int).toNat IntKind.u64.bits)) = oc6 y5 from rfl]
  generalize hy6 : oc6 y5 = y6
  repeat (first | refine AI_seqk fun K hK => ?_ | refine AI_reg ?_ | ((first | refine wmv rfl ?_ | refine wag rfl ?_ | refine war _ rfl rfl rfl (by omega) (by omega) ?_ | refine wbn rfl rfl rfl ?_ | refine wnt rfl ?_ | refine wex rfl rfl ?_ | refine wpt rfl (by first | assumption | with_reducible rfl) rfl ?_ | refine wpf rfl (by first | assumption | with_reducible rfl) rfl ?_ | refine wpb rfl rfl rfl ?_ | refine wmf rfl ?_ | refine wnc rfl ?_ | refine wbq Try.underlying4 rfl rfl _ (.inr ⟨rfl, rfl⟩) ?_ | refine wbq Try.underlying4 rfl rfl _ (.inl ⟨rfl, rfl⟩) ?_); try dsimp only [st, List.set_cons_zero, List.set_cons_succ]) | ((first | refine AS_nil ?_ | refine AI_skip ?_ | refine AI_exit ?_); try simp only [AThen, ABlk, reduceIte, reduceCtorEq]) | ((first | refine hK _ _ ?_ | ((first | clear hK K | clear IH hK K); refine hK _ _ ?_) | ((first | clear hK K | clear IH hK K); (first | clear hK K | clear IH hK K); refine hK _ _ ?_) | ((first | clear hK K | clear IH hK K); (first | clear hK K | clear IH hK K); (first | clear hK K | clear IH hK K); refine hK _ _ ?_)); try (first | clear hK K | clear IH hK K)) | refine AI_cond_t rfl (by first | assumption | with_reducible rfl) ?_ | refine AI_cond_f rfl (by first | assumption | with_reducible rfl) ?_ | refine AS_gy rfl (by first | assumption | with_reducible rfl) ?_ | refine AS_gtn rfl (by first | assumption | with_reducible rfl) ?_ | refine AS_gfn rfl (by first | assumption | with_reducible rfl) ?_ | refine AI_block (AI_loop ?_) | refine AI_block ?_ | refine AI_ret ⟨_, rfl, ?_⟩)
  refine AS_op (OpR_conv Try.underlying59 Try.underlying3 rfl ?_)
  try (dsimp only [st, setL, AV.cells, List.set_cons_zero, List.set_cons_succ, List.drop_zero, List.drop_succ_cons, List.take_zero, List.take_succ_cons, Nat.zero_add, Nat.add_zero, Nat.reduceAdd, List.cons_append, List.nil_append, List.eraseIdx_cons_zero, List.eraseIdx_cons_succ])
  repeat (first | refine AI_seqk fun K hK => ?_ | refine AI_reg ?_ | ((first | refine wmv rfl ?_ | refine wag rfl ?_ | refine war _ rfl rfl rfl (by omega) (by omega) ?_ | refine wbn rfl rfl rfl ?_ | refine wnt rfl ?_ | refine wex rfl rfl ?_ | refine wpt rfl (by first | assumption | with_reducible rfl) rfl ?_ | refine wpf rfl (by first | assumption | with_reducible rfl) rfl ?_ | refine wpb rfl rfl rfl ?_ | refine wmf rfl ?_ | refine wnc rfl ?_ | refine wbq Try.underlying4 rfl rfl _ (.inr ⟨rfl, rfl⟩) ?_ | refine wbq Try.underlying4 rfl rfl _ (.inl ⟨rfl, rfl⟩) ?_); try dsimp only [st, List.set_cons_zero, List.set_cons_succ]) | ((first | refine AS_nil ?_ | refine AI_skip ?_ | refine AI_exit ?_); try simp only [AThen, ABlk, reduceIte, reduceCtorEq]) | ((first | refine hK _ _ ?_ | ((first | clear hK K | clear IH hK K); refine hK _ _ ?_) | ((first | clear hK K | clear IH hK K); (first | clear hK K | clear IH hK K); refine hK _ _ ?_) | ((first | clear hK K | clear IH hK K); (first | clear hK K | clear IH hK K); (first | clear hK K | clear IH hK K); refine hK _ _ ?_)); try (first | clear hK K | clear IH hK K)) | refine AI_cond_t rfl (by first | assumption | with_reducible rfl) ?_ | refine AI_cond_f rfl (by first | assumption | with_reducible rfl) ?_ | refine AS_gy rfl (by first | assumption | with_reducible rfl) ?_ | refine AS_gtn rfl (by first | assumption | with_reducible rfl) ?_ | refine AS_gfn rfl (by first | assumption | with_reducible rfl) ?_ | refine AI_block (AI_loop ?_) | refine AI_block ?_ | refine AI_ret ⟨_, rfl, ?_⟩)
  exact ⟨by rw [ocT, hy1, hy2, hy3, hy4, hy5, hy6]; rfl, rfl⟩

theorem OnesCount_ac (x : Int) (h : AH) : AC Try.prog 84 [.i .u64 x] h (fun v h' => v = .i .i64 (ocT x) ∧ h = h') := by
  refine e84 _ fun wf => ?_
  unfold c84
  repeat (first | refine AI_seqk fun K hK => ?_ | refine AI_reg ?_ | ((first | refine wmv rfl ?_ | refine wag rfl ?_ | refine war _ rfl rfl rfl (by omega) (by omega) ?_ | refine wbn rfl rfl rfl ?_ | refine wnt rfl ?_ | refine wex rfl rfl ?_ | refine wpt rfl (by first | assumption | with_reducible rfl) rfl ?_ | refine wpf rfl (by first | assumption | with_reducible rfl) rfl ?_ | refine wpb rfl rfl rfl ?_ | refine wmf rfl ?_ | refine wnc rfl ?_ | refine wbq Try.underlying4 rfl rfl _ (.inr ⟨rfl, rfl⟩) ?_ | refine wbq Try.underlying4 rfl rfl _ (.inl ⟨rfl, rfl⟩) ?_); try dsimp only [st, List.set_cons_zero, List.set_cons_succ]) | ((first | refine AS_nil ?_ | refine AI_skip ?_ | refine AI_exit ?_); try simp only [AThen, ABlk, reduceIte, reduceCtorEq]) | ((first | refine hK _ _ ?_ | ((first | clear hK K | clear IH hK K); refine hK _ _ ?_) | ((first | clear hK K | clear IH hK K); (first | clear hK K | clear IH hK K); refine hK _ _ ?_) | ((first | clear hK K | clear IH hK K); (first | clear hK K | clear IH hK K); (first | clear hK K | clear IH hK K); refine hK _ _ ?_)); try (first | clear hK K | clear IH hK K)) | refine AI_cond_t rfl (by first | assumption | with_reducible rfl) ?_ | refine AI_cond_f rfl (by first | assumption | with_reducible rfl) ?_ | refine AS_gy rfl (by first | assumption | with_reducible rfl) ?_ | refine AS_gtn rfl (by first | assumption | with_reducible rfl) ?_ | refine AS_gfn rfl (by first | assumption | with_reducible rfl) ?_ | refine AI_block (AI_loop ?_) | refine AI_block ?_ | refine AI_ret ⟨_, rfl, ?_⟩)
  refine AS_op (OpR_call rfl rfl (OnesCount64_ac x _) ?_)
  rintro _ _ wf1 ⟨rfl, rfl⟩
  try (dsimp only [st, setL, AV.cells, List.set_cons_zero, List.set_cons_succ, List.drop_zero, List.drop_succ_cons, List.take_zero, List.take_succ_cons, Nat.zero_add, Nat.add_zero, Nat.reduceAdd, List.cons_append, List.nil_append, List.eraseIdx_cons_zero, List.eraseIdx_cons_succ])
  repeat (first | refine AI_seqk fun K hK => ?_ | refine AI_reg ?_ | ((first | refine wmv rfl ?_ | refine wag rfl ?_ | refine war _ rfl rfl rfl (by omega) (by omega) ?_ | refine wbn rfl rfl rfl ?_ | refine wnt rfl ?_ | refine wex rfl rfl ?_ | refine wpt rfl (by first | assumption | with_reducible rfl) rfl ?_ | refine wpf rfl (by first | assumption | with_reducible rfl) rfl ?_ | refine wpb rfl rfl rfl ?_ | refine wmf rfl ?_ | refine wnc rfl ?_ | refine wbq Try.underlying4 rfl rfl _ (.inr ⟨rfl, rfl⟩) ?_ | refine wbq Try.underlying4 rfl rfl _ (.inl ⟨rfl, rfl⟩) ?_); try dsimp only [st, List.set_cons_zero, List.set_cons_succ]) | ((first | refine AS_nil ?_ | refine AI_skip ?_ | refine AI_exit ?_); try simp only [AThen, ABlk, reduceIte, reduceCtorEq]) | ((first | refine hK _ _ ?_ | ((first | clear hK K | clear IH hK K); refine hK _ _ ?_) | ((first | clear hK K | clear IH hK K); (first | clear hK K | clear IH hK K); refine hK _ _ ?_) | ((first | clear hK K | clear IH hK K); (first | clear hK K | clear IH hK K); (first | clear hK K | clear IH hK K); refine hK _ _ ?_)); try (first | clear hK K | clear IH hK K)) | refine AI_cond_t rfl (by first | assumption | with_reducible rfl) ?_ | refine AI_cond_f rfl (by first | assumption | with_reducible rfl) ?_ | refine AS_gy rfl (by first | assumption | with_reducible rfl) ?_ | refine AS_gtn rfl (by first | assumption | with_reducible rfl) ?_ | refine AS_gfn rfl (by first | assumption | with_reducible rfl) ?_ | refine AI_block (AI_loop ?_) | refine AI_block ?_ | refine AI_ret ⟨_, rfl, ?_⟩)
  exact ⟨rfl, rfl⟩

/-- Digits in base two, the greatest first. -/
def bitsL : Nat → Int → List Int → List Int
  | 0, _, out => out
  | n + 1, x, out => if 0 < x then bitsL n (x.tdiv 2) (x.tmod 2 :: out) else out

def bitsN (n : Int) : List Int := bitsL 100 n []

def sumL : List Int → Int
  | [] => 0
  | x :: l => x + sumL l

def lbL : Nat → Int → Int → Int
  | 0, b, _ => b
  | f + 1, b, o => if IntKind.i64.wrap (1 * 2 ^ min b.toNat IntKind.i64.bits) < o then lbL f (b + 1) o else b

/-- All that is to be known of the few numbers that there are. -/
theorem small : ∀ k : Fin 101, (bitsN k.val).length ≤ 7 ∧ (∀ d ∈ bitsN k.val, 0 ≤ d ∧ d ≤ 1) ∧ 0 ≤ sumL (bitsN k.val) ∧ sumL (bitsN k.val) ≤ 7 ∧ IntKind.u64.wrap k.val = k.val ∧
    (0 < k.val → ((bitsN k.val).length : Int) = lenT k.val ∧ sumL (bitsN k.val) = ocT k.val ∧ 1 ≤ ocT k.val ∧ IntKind.u64.wrap (ocT k.val - 1) = ocT k.val - 1 ∧ lbL 8 0 (sumL (bitsN k.val)) = lenT (ocT k.val - 1)) := by decide +kernel

theorem fin101 {x : Int} (h0 : 0 ≤ x) (h1 : x ≤ 100) : ∃ k : Fin 101, x = k.val := ⟨⟨x.toNat, by omega⟩, by simp; omega⟩

/-- The bounds. -/
def upM (n : Int) : Int × Bool := if 1 ≤ n ∧ n ≤ 100 then (lenT n + ocT n - 2, true) else (0, false)

def loM (n : Int) : Int × Bool := if 1 ≤ n ∧ n ≤ 100 then (lenT n - 1 + lenT (ocT n - 1), true) else (0, false)

theorem implUpper_ac (n : Int) (h : AH) : AC Try.prog 50 [.i .i64 n] h (fun r h' => r = .tup [.i .i64 (upM n).1, .b (upM n).2] ∧ h = h') := by
  refine e50 _ fun wf => ?_
  unfold c50
  repeat (first | refine AI_seqk fun K hK => ?_ | refine AI_reg ?_ | ((first | refine wmv rfl ?_ | refine wag rfl ?_ | refine war _ rfl rfl rfl (by omega) (by omega) ?_ | refine wbn rfl rfl rfl ?_ | refine wnt rfl ?_ | refine wex rfl rfl ?_ | refine wpt rfl (by first | assumption | with_reducible rfl) rfl ?_ | refine wpf rfl (by first | assumption | with_reducible rfl) rfl ?_ | refine wpb rfl rfl rfl ?_ | refine wmf rfl ?_ | refine wnc rfl ?_ | refine wbq Try.underlying4 rfl rfl _ (.inr ⟨rfl, rfl⟩) ?_ | refine wbq Try.underlying4 rfl rfl _ (.inl ⟨rfl, rfl⟩) ?_); try dsimp only [st, List.set_cons_zero, List.set_cons_succ]) | ((first | refine AS_nil ?_ | refine AI_skip ?_ | refine AI_exit ?_); try simp only [AThen, ABlk, reduceIte, reduceCtorEq]) | ((first | refine hK _ _ ?_ | ((first | clear hK K | clear IH hK K); refine hK _ _ ?_) | ((first | clear hK K | clear IH hK K); (first | clear hK K | clear IH hK K); refine hK _ _ ?_) | ((first | clear hK K | clear IH hK K); (first | clear hK K | clear IH hK K); (first | clear hK K | clear IH hK K); refine hK _ _ ?_)); try (first | clear hK K | clear IH hK K)) | refine AI_cond_t rfl (by first | assumption | with_reducible rfl) ?_ | refine AI_cond_f rfl (by first | assumption | with_reducible rfl) ?_ | refine AS_gy rfl (by first | assumption | with_reducible rfl) ?_ | refine AS_gtn rfl (by first | assumption | with_reducible rfl) ?_ | refine AS_gfn rfl (by first | assumption | with_reducible rfl) ?_ | refine AI_block (AI_loop ?_) | refine AI_block ?_ | refine AI_ret ⟨_, rfl, ?_⟩)
  refine AS_op (OpR_call rfl rfl (isShort_ac _ _) ?_)
  rintro _ _ wf1 ⟨rfl, rfl⟩
  try (dsimp only [st, setL, AV.cells, List.set_cons_zero, List.set_cons_succ, List.drop_zero, List.drop_succ_cons, List.take_zero, List.take_succ_cons, Nat.zero_add, Nat.add_zero, Nat.reduceAdd, List.cons_append, List.nil_append, List.eraseIdx_cons_zero, List.eraseIdx_cons_succ])
  repeat (first | refine AI_seqk fun K hK => ?_ | refine AI_reg ?_ | ((first | refine wmv rfl ?_ | refine wag rfl ?_ | refine war _ rfl rfl rfl (by omega) (by omega) ?_ | refine wbn rfl rfl rfl ?_ | refine wnt rfl ?_ | refine wex rfl rfl ?_ | refine wpt rfl (by first | assumption | with_reducible rfl) rfl ?_ | refine wpf rfl (by first | assumption | with_reducible rfl) rfl ?_ | refine wpb rfl rfl rfl ?_ | refine wmf rfl ?_ | refine wnc rfl ?_ | refine wbq Try.underlying4 rfl rfl _ (.inr ⟨rfl, rfl⟩) ?_ | refine wbq Try.underlying4 rfl rfl _ (.inl ⟨rfl, rfl⟩) ?_); try dsimp only [st, List.set_cons_zero, List.set_cons_succ]) | ((first | refine AS_nil ?_ | refine AI_skip ?_ | refine AI_exit ?_); try simp only [AThen, ABlk, reduceIte, reduceCtorEq]) | ((first | refine hK _ _ ?_ | ((first | clear hK K | clear IH hK K); refine hK _ _ ?_) | ((first | clear hK K | clear IH hK K); (first | clear hK K | clear IH hK K); refine hK _ _ ?_) | ((first | clear hK K | clear IH hK K); (first | clear hK K | clear IH hK K); (first | clear hK K | clear IH hK K); refine hK _ _ ?_)); try (first | clear hK K | clear IH hK K)) | refine AI_cond_t rfl (by first | assumption | with_reducible rfl) ?_ | refine AI_cond_f rfl (by first | assumption | with_reducible rfl) ?_ | refine AS_gy rfl (by first | assumption | with_reducible rfl) ?_ | refine AS_gtn rfl (by first | assumption | with_reducible rfl) ?_ | refine AS_gfn rfl (by first | assumption | with_reducible rfl) ?_ | refine AI_block (AI_loop ?_) | refine AI_block ?_ | refine AI_ret ⟨_, rfl, ?_⟩)
  (first | refine AS_gt rfl ?_ ?_ | refine AS_gf rfl ?_ ?_ | refine AI_cond rfl ?_ ?_) <;> intro hc <;> have hc' := hc <;> try simp only [decide_eq_true_eq, decide_eq_false_iff_not, Bool.not_eq_true', Bool.not_eq_false', Bool.not_eq_true, Bool.not_eq_false, beq_iff_eq, bne_iff_ne, beq_eq_false_iff_ne, bne_eq_false_iff_eq, Int.not_lt, Int.not_le, ge_iff_le, gt_iff_lt, not_and, ne_eq, Decidable.not_not] at hc'
  all_goals
    repeat (first | refine AI_seqk fun K hK => ?_ | refine AI_reg ?_ | ((first | refine wmv rfl ?_ | refine wag rfl ?_ | refine war _ rfl rfl rfl (by omega) (by omega) ?_ | refine wbn rfl rfl rfl ?_ | refine wnt rfl ?_ | refine wex rfl rfl ?_ | refine wpt rfl (by first | assumption | with_reducible rfl) rfl ?_ | refine wpf rfl (by first | assumption | with_reducible rfl) rfl ?_ | refine wpb rfl rfl rfl ?_ | refine wmf rfl ?_ | refine wnc rfl ?_ | refine wbq Try.underlying4 rfl rfl _ (.inr ⟨rfl, rfl⟩) ?_ | refine wbq Try.underlying4 rfl rfl _ (.inl ⟨rfl, rfl⟩) ?_); try dsimp only [st, List.set_cons_zero, List.set_cons_succ]) | ((first | refine AS_nil ?_ | refine AI_skip ?_ | refine AI_exit ?_); try simp only [AThen, ABlk, reduceIte, reduceCtorEq]) | ((first | refine hK _ _ ?_ | ((first | clear hK K | clear IH hK K); refine hK _ _ ?_) | ((first | clear hK K | clear IH hK K); (first | clear hK K | clear IH hK K); refine hK _ _ ?_) | ((first | clear hK K | clear IH hK K); (first | clear hK K | clear IH hK K); (first | clear hK K | clear IH hK K); refine hK _ _ ?_)); try (first | clear hK K | clear IH hK K)) | refine AI_cond_t rfl (by first | assumption | with_reducible rfl) ?_ | refine AI_cond_f rfl (by first | assumption | with_reducible rfl) ?_ | refine AS_gy rfl (by first | assumption | with_reducible rfl) ?_ | refine AS_gtn rfl (by first | assumption | with_reducible rfl) ?_ | refine AS_gfn rfl (by first | assumption | with_reducible rfl) ?_ | refine AI_block (AI_loop ?_) | refine AI_block ?_ | refine AI_ret ⟨_, rfl, ?_⟩)
  · have hv := of_decide_eq_false (nt hc)
    rw [upM, if_neg hv]
    exact ⟨rfl, rfl⟩
  · have hv := of_decide_eq_true (nf hc)
    obtain ⟨k, rfl⟩ := fin101 (x := n) (by omega) hv.2
    obtain ⟨s1, s2, s3, s4, s9, s5⟩ := small k
    obtain ⟨s6, s7, s8, _, _⟩ := s5 (by omega)
    have hb := lenT_bd k.val
    refine AS_op (OpR_conv Try.underlying3 Try.underlying67 rfl ?_)
    try (dsimp only [st, setL, AV.cells, List.set_cons_zero, List.set_cons_succ, List.drop_zero, List.drop_succ_cons, List.take_zero, List.take_succ_cons, Nat.zero_add, Nat.add_zero, Nat.reduceAdd, List.cons_append, List.nil_append, List.eraseIdx_cons_zero, List.eraseIdx_cons_succ])
    repeat (first | refine AI_seqk fun K hK => ?_ | refine AI_reg ?_ | ((first | refine wmv rfl ?_ | refine wag rfl ?_ | refine war _ rfl rfl rfl (by omega) (by omega) ?_ | refine wbn rfl rfl rfl ?_ | refine wnt rfl ?_ | refine wex rfl rfl ?_ | refine wpt rfl (by first | assumption | with_reducible rfl) rfl ?_ | refine wpf rfl (by first | assumption | with_reducible rfl) rfl ?_ | refine wpb rfl rfl rfl ?_ | refine wmf rfl ?_ | refine wnc rfl ?_ | refine wbq Try.underlying4 rfl rfl _ (.inr ⟨rfl, rfl⟩) ?_ | refine wbq Try.underlying4 rfl rfl _ (.inl ⟨rfl, rfl⟩) ?_); try dsimp only [st, List.set_cons_zero, List.set_cons_succ]) | ((first | refine AS_nil ?_ | refine AI_skip ?_ | refine AI_exit ?_); try simp only [AThen, ABlk, reduceIte, reduceCtorEq]) | ((first | refine hK _ _ ?_ | ((first | clear hK K | clear IH hK K); refine hK _ _ ?_) | ((first | clear hK K | clear IH hK K); (first | clear hK K | clear IH hK K); refine hK _ _ ?_) | ((first | clear hK K | clear IH hK K); (first | clear hK K | clear IH hK K); (first | clear hK K | clear IH hK K); refine hK _ _ ?_)); try (first | clear hK K | clear IH hK K)) | refine AI_cond_t rfl (by first | assumption | with_reducible rfl) ?_ | refine AI_cond_f rfl (by first | assumption | with_reducible rfl) ?_ | refine AS_gy rfl (by first | assumption | with_reducible rfl) ?_ | refine AS_gtn rfl (by first | assumption | with_reducible rfl) ?_ | refine AS_gfn rfl (by first | assumption | with_reducible rfl) ?_ | refine AI_block (AI_loop ?_) | refine AI_block ?_ | refine AI_ret ⟨_, rfl, ?_⟩)
    rw [s9]
    refine AS_op (OpR_call rfl rfl (Len_ac _ _ (by omega) (by omega)) ?_)
    rintro _ _ wf2 ⟨rfl, rfl⟩
    try (dsimp only [st, setL, AV.cells, List.set_cons_zero, List.set_cons_succ, List.drop_zero, List.drop_succ_cons, List.take_zero, List.take_succ_cons, Nat.zero_add, Nat.add_zero, Nat.reduceAdd, List.cons_append, List.nil_append, List.eraseIdx_cons_zero, List.eraseIdx_cons_succ])
    repeat (first | refine AI_seqk fun K hK => ?_ | refine AI_reg ?_ | ((first | refine wmv rfl ?_ | refine wag rfl ?_ | refine war _ rfl rfl rfl (by omega) (by omega) ?_ | refine wbn rfl rfl rfl ?_ | refine wnt rfl ?_ | refine wex rfl rfl ?_ | refine wpt rfl (by first | assumption | with_reducible rfl) rfl ?_ | refine wpf rfl (by first | assumption | with_reducible rfl) rfl ?_ | refine wpb rfl rfl rfl ?_ | refine wmf rfl ?_ | refine wnc rfl ?_ | refine wbq Try.underlying4 rfl rfl _ (.inr ⟨rfl, rfl⟩) ?_ | refine wbq Try.underlying4 rfl rfl _ (.inl ⟨rfl, rfl⟩) ?_); try dsimp only [st, List.set_cons_zero, List.set_cons_succ]) | ((first | refine AS_nil ?_ | refine AI_skip ?_ | refine AI_exit ?_); try simp only [AThen, ABlk, reduceIte, reduceCtorEq]) | ((first | refine hK _ _ ?_ | ((first | clear hK K | clear IH hK K); refine hK _ _ ?_) | ((first | clear hK K | clear IH hK K); (first | clear hK K | clear IH hK K); refine hK _ _ ?_) | ((first | clear hK K | clear IH hK K); (first | clear hK K | clear IH hK K); (first | clear hK K | clear IH hK K); refine hK _ _ ?_)); try (first | clear hK K | clear IH hK K)) | refine AI_cond_t rfl (by first | assumption | with_reducible rfl) ?_ | refine AI_cond_f rfl (by first | assumption | with_reducible rfl) ?_ | refine AS_gy rfl (by first | assumption | with_reducible rfl) ?_ | refine AS_gtn rfl (by first | assumption | with_reducible rfl) ?_ | refine AS_gfn rfl (by first | assumption | with_reducible rfl) ?_ | refine AI_block (AI_loop ?_) | refine AI_block ?_ | refine AI_ret ⟨_, rfl, ?_⟩)
    refine AS_op (OpR_conv Try.underlying3 Try.underlying67 rfl ?_)
    try (dsimp only [st, setL, AV.cells, List.set_cons_zero, List.set_cons_succ, List.drop_zero, List.drop_succ_cons, List.take_zero, List.take_succ_cons, Nat.zero_add, Nat.add_zero, Nat.reduceAdd, List.cons_append, List.nil_append, List.eraseIdx_cons_zero, List.eraseIdx_cons_succ])
    repeat (first | refine AI_seqk fun K hK => ?_ | refine AI_reg ?_ | ((first | refine wmv rfl ?_ | refine wag rfl ?_ | refine war _ rfl rfl rfl (by omega) (by omega) ?_ | refine wbn rfl rfl rfl ?_ | refine wnt rfl ?_ | refine wex rfl rfl ?_ | refine wpt rfl (by first | assumption | with_reducible rfl) rfl ?_ | refine wpf rfl (by first | assumption | with_reducible rfl) rfl ?_ | refine wpb rfl rfl rfl ?_ | refine wmf rfl ?_ | refine wnc rfl ?_ | refine wbq Try.underlying4 rfl rfl _ (.inr ⟨rfl, rfl⟩) ?_ | refine wbq Try.underlying4 rfl rfl _ (.inl ⟨rfl, rfl⟩) ?_); try dsimp only [st, List.set_cons_zero, List.set_cons_succ]) | ((first | refine AS_nil ?_ | refine AI_skip ?_ | refine AI_exit ?_); try simp only [AThen, ABlk, reduceIte, reduceCtorEq]) | ((first | refine hK _ _ ?_ | ((first | clear hK K | clear IH hK K); refine hK _ _ ?_) | ((first | clear hK K | clear IH hK K); (first | clear hK K | clear IH hK K); refine hK _ _ ?_) | ((first | clear hK K | clear IH hK K); (first | clear hK K | clear IH hK K); (first | clear hK K | clear IH hK K); refine hK _ _ ?_)); try (first | clear hK K | clear IH hK K)) | refine AI_cond_t rfl (by first | assumption | with_reducible rfl) ?_ | refine AI_cond_f rfl (by first | assumption | with_reducible rfl) ?_ | refine AS_gy rfl (by first | assumption | with_reducible rfl) ?_ | refine AS_gtn rfl (by first | assumption | with_reducible rfl) ?_ | refine AS_gfn rfl (by first | assumption | with_reducible rfl) ?_ | refine AI_block (AI_loop ?_) | refine AI_block ?_ | refine AI_ret ⟨_, rfl, ?_⟩)
    rw [s9]
    refine AS_op (OpR_call rfl rfl (OnesCount_ac _ _) ?_)
    rintro _ _ wf3 ⟨rfl, rfl⟩
    try (dsimp only [st, setL, AV.cells, List.set_cons_zero, List.set_cons_succ, List.drop_zero, List.drop_succ_cons, List.take_zero, List.take_succ_cons, Nat.zero_add, Nat.add_zero, Nat.reduceAdd, List.cons_append, List.nil_append, List.eraseIdx_cons_zero, List.eraseIdx_cons_succ])
    repeat (first | refine AI_seqk fun K hK => ?_ | refine AI_reg ?_ | ((first | refine wmv rfl ?_ | refine wag rfl ?_ | refine war _ rfl rfl rfl (by omega) (by omega) ?_ | refine wbn rfl rfl rfl ?_ | refine wnt rfl ?_ | refine wex rfl rfl ?_ | refine wpt rfl (by first | assumption | with_reducible rfl) rfl ?_ | refine wpf rfl (by first | assumption | with_reducible rfl) rfl ?_ | refine wpb rfl rfl rfl ?_ | refine wmf rfl ?_ | refine wnc rfl ?_ | refine wbq Try.underlying4 rfl rfl _ (.inr ⟨rfl, rfl⟩) ?_ | refine wbq Try.underlying4 rfl rfl _ (.inl ⟨rfl, rfl⟩) ?_); try dsimp only [st, List.set_cons_zero, List.set_cons_succ]) | ((first | refine AS_nil ?_ | refine AI_skip ?_ | refine AI_exit ?_); try simp only [AThen, ABlk, reduceIte, reduceCtorEq]) | ((first | refine hK _ _ ?_ | ((first | clear hK K | clear IH hK K); refine hK _ _ ?_) | ((first | clear hK K | clear IH hK K); (first | clear hK K | clear IH hK K); refine hK _ _ ?_) | ((first | clear hK K | clear IH hK K); (first | clear hK K | clear IH hK K); (first | clear hK K | clear IH hK K); refine hK _ _ ?_)); try (first | clear hK K | clear IH hK K)) | refine AI_cond_t rfl (by first | assumption | with_reducible rfl) ?_ | refine AI_cond_f rfl (by first | assumption | with_reducible rfl) ?_ | refine AS_gy rfl (by first | assumption | with_reducible rfl) ?_ | refine AS_gtn rfl (by first | assumption | with_reducible rfl) ?_ | refine AS_gfn rfl (by first | assumption | with_reducible rfl) ?_ | refine AI_block (AI_loop ?_) | refine AI_block ?_ | refine AI_ret ⟨_, rfl, ?_⟩)
    refine ⟨?_, rfl⟩
    rw [upM, if_pos hv]
    rfl

theorem implLower_ac (n : Int) (h : AH) : AC Try.prog 49 [.i .i64 n] h (fun r h' => r = .tup [.i .i64 (loM n).1, .b (loM n).2] ∧ h = h') := by
  refine e49 _ fun wf => ?_
  unfold c49
  repeat (first | refine AI_seqk fun K hK => ?_ | refine AI_reg ?_ | ((first | refine wmv rfl ?_ | refine wag rfl ?_ | refine war _ rfl rfl rfl (by omega) (by omega) ?_ | refine wbn rfl rfl rfl ?_ | refine wnt rfl ?_ | refine wex rfl rfl ?_ | refine wpt rfl (by first | assumption | with_reducible rfl) rfl ?_ | refine wpf rfl (by first | assumption | with_reducible rfl) rfl ?_ | refine wpb rfl rfl rfl ?_ | refine wmf rfl ?_ | refine wnc rfl ?_ | refine wbq Try.underlying4 rfl rfl _ (.inr ⟨rfl, rfl⟩) ?_ | refine wbq Try.underlying4 rfl rfl _ (.inl ⟨rfl, rfl⟩) ?_); try dsimp only [st, List.set_cons_zero, List.set_cons_succ]) | ((first | refine AS_nil ?_ | refine AI_skip ?_ | refine AI_exit ?_); try simp only [AThen, ABlk, reduceIte, reduceCtorEq]) | ((first | refine hK _ _ ?_ | ((first | clear hK K | clear IH hK K); refine hK _ _ ?_) | ((first | clear hK K | clear IH hK K); (first | clear hK K | clear IH hK K); refine hK _ _ ?_) | ((first | clear hK K | clear IH hK K); (first | clear hK K | clear IH hK K); (first | clear hK K | clear IH hK K); refine hK _ _ ?_)); try (first | clear hK K | clear IH hK K)) | refine AI_cond_t rfl (by first | assumption | with_reducible rfl) ?_ | refine AI_cond_f rfl (by first | assumption | with_reducible rfl) ?_ | refine AS_gy rfl (by first | assumption | with_reducible rfl) ?_ | refine AS_gtn rfl (by first | assumption | with_reducible rfl) ?_ | refine AS_gfn rfl (by first | assumption | with_reducible rfl) ?_ | refine AI_block (AI_loop ?_) | refine AI_block ?_ | refine AI_ret ⟨_, rfl, ?_⟩)
  refine AS_op (OpR_call rfl rfl (isShort_ac _ _) ?_)
  rintro _ _ wf1 ⟨rfl, rfl⟩
  try (dsimp only [st, setL, AV.cells, List.set_cons_zero, List.set_cons_succ, List.drop_zero, List.drop_succ_cons, List.take_zero, List.take_succ_cons, Nat.zero_add, Nat.add_zero, Nat.reduceAdd, List.cons_append, List.nil_append, List.eraseIdx_cons_zero, List.eraseIdx_cons_succ])
  repeat (first | refine AI_seqk fun K hK => ?_ | refine AI_reg ?_ | ((first | refine wmv rfl ?_ | refine wag rfl ?_ | refine war _ rfl rfl rfl (by omega) (by omega) ?_ | refine wbn rfl rfl rfl ?_ | refine wnt rfl ?_ | refine wex rfl rfl ?_ | refine wpt rfl (by first | assumption | with_reducible rfl) rfl ?_ | refine wpf rfl (by first | assumption | with_reducible rfl) rfl ?_ | refine wpb rfl rfl rfl ?_ | refine wmf rfl ?_ | refine wnc rfl ?_ | refine wbq Try.underlying4 rfl rfl _ (.inr ⟨rfl, rfl⟩) ?_ | refine wbq Try.underlying4 rfl rfl _ (.inl ⟨rfl, rfl⟩) ?_); try dsimp only [st, List.set_cons_zero, List.set_cons_succ]) | ((first | refine AS_nil ?_ | refine AI_skip ?_ | refine AI_exit ?_); try simp only [AThen, ABlk, reduceIte, reduceCtorEq]) | ((first | refine hK _ _ ?_ | ((first | clear hK K | clear IH hK K); refine hK _ _ ?_) | ((first | clear hK K | clear IH hK K); (first | clear hK K | clear IH hK K); refine hK _ _ ?_) | ((first | clear hK K | clear IH hK K); (first | clear hK K | clear IH hK K); (first | clear hK K | clear IH hK K); refine hK _ _ ?_)); try (first | clear hK K | clear IH hK K)) | refine AI_cond_t rfl (by first | assumption | with_reducible rfl) ?_ | refine AI_cond_f rfl (by first | assumption | with_reducible rfl) ?_ | refine AS_gy rfl (by first | assumption | with_reducible rfl) ?_ | refine AS_gtn rfl (by first | assumption | with_reducible rfl) ?_ | refine AS_gfn rfl (by first | assumption | with_reducible rfl) ?_ | refine AI_block (AI_loop ?_) | refine AI_block ?_ | refine AI_ret ⟨_, rfl, ?_⟩)
  (first | refine AS_gt rfl ?_ ?_ | refine AS_gf rfl ?_ ?_ | refine AI_cond rfl ?_ ?_) <;> intro hc <;> have hc' := hc <;> try simp only [decide_eq_true_eq, decide_eq_false_iff_not, Bool.not_eq_true', Bool.not_eq_false', Bool.not_eq_true, Bool.not_eq_false, beq_iff_eq, bne_iff_ne, beq_eq_false_iff_ne, bne_eq_false_iff_eq, Int.not_lt, Int.not_le, ge_iff_le, gt_iff_lt, not_and, ne_eq, Decidable.not_not] at hc'
  all_goals
    repeat (first | refine AI_seqk fun K hK => ?_ | refine AI_reg ?_ | ((first | refine wmv rfl ?_ | refine wag rfl ?_ | refine war _ rfl rfl rfl (by omega) (by omega) ?_ | refine wbn rfl rfl rfl ?_ | refine wnt rfl ?_ | refine wex rfl rfl ?_ | refine wpt rfl (by first | assumption | with_reducible rfl) rfl ?_ | refine wpf rfl (by first | assumption | with_reducible rfl) rfl ?_ | refine wpb rfl rfl rfl ?_ | refine wmf rfl ?_ | refine wnc rfl ?_ | refine wbq Try.underlying4 rfl rfl _ (.inr ⟨rfl, rfl⟩) ?_ | refine wbq Try.underlying4 rfl rfl _ (.inl ⟨rfl, rfl⟩) ?_); try dsimp only [st, List.set_cons_zero, List.set_cons_succ]) | ((first | refine AS_nil ?_ | refine AI_skip ?_ | refine AI_exit ?_); try simp only [AThen, ABlk, reduceIte, reduceCtorEq]) | ((first | refine hK _ _ ?_ | ((first | clear hK K | clear IH hK K); refine hK _ _ ?_) | ((first | clear hK K | clear IH hK K); (first | clear hK K | clear IH hK K); refine hK _ _ ?_) | ((first | clear hK K | clear IH hK K); (first | clear hK K | clear IH hK K); (first | clear hK K | clear IH hK K); refine hK _ _ ?_)); try (first | clear hK K | clear IH hK K)) | refine AI_cond_t rfl (by first | assumption | with_reducible rfl) ?_ | refine AI_cond_f rfl (by first | assumption | with_reducible rfl) ?_ | refine AS_gy rfl (by first | assumption | with_reducible rfl) ?_ | refine AS_gtn rfl (by first | assumption | with_reducible rfl) ?_ | refine AS_gfn rfl (by first | assumption | with_reducible rfl) ?_ | refine AI_block (AI_loop ?_) | refine AI_block ?_ | refine AI_ret ⟨_, rfl, ?_⟩)
  · have hv := of_decide_eq_false (nt hc)
    rw [loM, if_neg hv]
    exact ⟨rfl, rfl⟩
  · have hv := of_decide_eq_true (nf hc)
    obtain ⟨k, rfl⟩ := fin101 (x := n) (by omega) hv.2
    obtain ⟨s1, s2, s3, s4, s9, s5⟩ := small k
    obtain ⟨s6, s7, s8, s10, _⟩ := s5 (by omega)
    have hb := lenT_bd k.val
    have hb2 := lenT_bd (ocT k.val - 1)
    refine AS_op (OpR_conv Try.underlying3 Try.underlying67 rfl ?_)
    try (dsimp only [st, setL, AV.cells, List.set_cons_zero, List.set_cons_succ, List.drop_zero, List.drop_succ_cons, List.take_zero, List.take_succ_cons, Nat.zero_add, Nat.add_zero, Nat.reduceAdd, List.cons_append, List.nil_append, List.eraseIdx_cons_zero, List.eraseIdx_cons_succ])
    repeat (first | refine AI_seqk fun K hK => ?_ | refine AI_reg ?_ | ((first | refine wmv rfl ?_ | refine wag rfl ?_ | refine war _ rfl rfl rfl (by omega) (by omega) ?_ | refine wbn rfl rfl rfl ?_ | refine wnt rfl ?_ | refine wex rfl rfl ?_ | refine wpt rfl (by first | assumption | with_reducible rfl) rfl ?_ | refine wpf rfl (by first | assumption | with_reducible rfl) rfl ?_ | refine wpb rfl rfl rfl ?_ | refine wmf rfl ?_ | refine wnc rfl ?_ | refine wbq Try.underlying4 rfl rfl _ (.inr ⟨rfl, rfl⟩) ?_ | refine wbq Try.underlying4 rfl rfl _ (.inl ⟨rfl, rfl⟩) ?_); try dsimp only [st, List.set_cons_zero, List.set_cons_succ]) | ((first | refine AS_nil ?_ | refine AI_skip ?_ | refine AI_exit ?_); try simp only [AThen, ABlk, reduceIte, reduceCtorEq]) | ((first | refine hK _ _ ?_ | ((first | clear hK K | clear IH hK K); refine hK _ _ ?_) | ((first | clear hK K | clear IH hK K); (first | clear hK K | clear IH hK K); refine hK _ _ ?_) | ((first | clear hK K | clear IH hK K); (first | clear hK K | clear IH hK K); (first | clear hK K | clear IH hK K); refine hK _ _ ?_)); try (first | clear hK K | clear IH hK K)) | refine AI_cond_t rfl (by first | assumption | with_reducible rfl) ?_ | refine AI_cond_f rfl (by first | assumption | with_reducible rfl) ?_ | refine AS_gy rfl (by first | assumption | with_reducible rfl) ?_ | refine AS_gtn rfl (by first | assumption | with_reducible rfl) ?_ | refine AS_gfn rfl (by first | assumption | with_reducible rfl) ?_ | refine AI_block (AI_loop ?_) | refine AI_block ?_ | refine AI_ret ⟨_, rfl, ?_⟩)
    rw [s9]
    refine AS_op (OpR_call rfl rfl (Len_ac _ _ (by omega) (by omega)) ?_)
    rintro _ _ wf2 ⟨rfl, rfl⟩
    try (dsimp only [st, setL, AV.cells, List.set_cons_zero, List.set_cons_succ, List.drop_zero, List.drop_succ_cons, List.take_zero, List.take_succ_cons, Nat.zero_add, Nat.add_zero, Nat.reduceAdd, List.cons_append, List.nil_append, List.eraseIdx_cons_zero, List.eraseIdx_cons_succ])
    repeat (first | refine AI_seqk fun K hK => ?_ | refine AI_reg ?_ | ((first | refine wmv rfl ?_ | refine wag rfl ?_ | refine war _ rfl rfl rfl (by omega) (by omega) ?_ | refine wbn rfl rfl rfl ?_ | refine wnt rfl ?_ | refine wex rfl rfl ?_ | refine wpt rfl (by first | assumption | with_reducible rfl) rfl ?_ | refine wpf rfl (by first | assumption | with_reducible rfl) rfl ?_ | refine wpb rfl rfl rfl ?_ | refine wmf rfl ?_ | refine wnc rfl ?_ | refine wbq Try.underlying4 rfl rfl _ (.inr ⟨rfl, rfl⟩) ?_ | refine wbq Try.underlying4 rfl rfl _ (.inl ⟨rfl, rfl⟩) ?_); try dsimp only [st, List.set_cons_zero, List.set_cons_succ]) | ((first | refine AS_nil ?_ | refine AI_skip ?_ | refine AI_exit ?_); try simp only [AThen, ABlk, reduceIte, reduceCtorEq]) | ((first | refine hK _ _ ?_ | ((first | clear hK K | clear IH hK K); refine hK _ _ ?_) | ((first | clear hK K | clear IH hK K); (first | clear hK K | clear IH hK K); refine hK _ _ ?_) | ((first | clear hK K | clear IH hK K); (first | clear hK K | clear IH hK K); (first | clear hK K | clear IH hK K); refine hK _ _ ?_)); try (first | clear hK K | clear IH hK K)) | refine AI_cond_t rfl (by first | assumption | with_reducible rfl) ?_ | refine AI_cond_f rfl (by first | assumption | with_reducible rfl) ?_ | refine AS_gy rfl (by first | assumption | with_reducible rfl) ?_ | refine AS_gtn rfl (by first | assumption | with_reducible rfl) ?_ | refine AS_gfn rfl (by first | assumption | with_reducible rfl) ?_ | refine AI_block (AI_loop ?_) | refine AI_block ?_ | refine AI_ret ⟨_, rfl, ?_⟩)
    refine AS_op (OpR_conv Try.underlying3 Try.underlying67 rfl ?_)
    try (dsimp only [st, setL, AV.cells, List.set_cons_zero, List.set_cons_succ, List.drop_zero, List.drop_succ_cons, List.take_zero, List.take_succ_cons, Nat.zero_add, Nat.add_zero, Nat.reduceAdd, List.cons_append, List.nil_append, List.eraseIdx_cons_zero, List.eraseIdx_cons_succ])
    repeat (first | refine AI_seqk fun K hK => ?_ | refine AI_reg ?_ | ((first | refine wmv rfl ?_ | refine wag rfl ?_ | refine war _ rfl rfl rfl (by omega) (by omega) ?_ | refine wbn rfl rfl rfl ?_ | refine wnt rfl ?_ | refine wex rfl rfl ?_ | refine wpt rfl (by first | assumption | with_reducible rfl) rfl ?_ | refine wpf rfl (by first | assumption | with_reducible rfl) rfl ?_ | refine wpb rfl rfl rfl ?_ | refine wmf rfl ?_ | refine wnc rfl ?_ | refine wbq Try.underlying4 rfl rfl _ (.inr ⟨rfl, rfl⟩) ?_ | refine wbq Try.underlying4 rfl rfl _ (.inl ⟨rfl, rfl⟩) ?_); try dsimp only [st, List.set_cons_zero, List.set_cons_succ]) | ((first | refine AS_nil ?_ | refine AI_skip ?_ | refine AI_exit ?_); try simp only [AThen, ABlk, reduceIte, reduceCtorEq]) | ((first | refine hK _ _ ?_ | ((first | clear hK K | clear IH hK K); refine hK _ _ ?_) | ((first | clear hK K | clear IH hK K); (first | clear hK K | clear IH hK K); refine hK _ _ ?_) | ((first | clear hK K | clear IH hK K); (first | clear hK K | clear IH hK K); (first | clear hK K | clear IH hK K); refine hK _ _ ?_)); try (first | clear hK K | clear IH hK K)) | refine AI_cond_t rfl (by first | assumption | with_reducible rfl) ?_ | refine AI_cond_f rfl (by first | assumption | with_reducible rfl) ?_ | refine AS_gy rfl (by first | assumption | with_reducible rfl) ?_ | refine AS_gtn rfl (by first | assumption | with_reducible rfl) ?_ | refine AS_gfn rfl (by first | assumption | with_reducible rfl) ?_ | refine AI_block (AI_loop ?_) | refine AI_block ?_ | refine AI_ret ⟨_, rfl, ?_⟩)
    rw [s9]
    refine AS_op (OpR_call rfl rfl (OnesCount_ac _ _) ?_)
    rintro _ _ wf3 ⟨rfl, rfl⟩
    try (dsimp only [st, setL, AV.cells, List.set_cons_zero, List.set_cons_succ, List.drop_zero, List.drop_succ_cons, List.take_zero, List.take_succ_cons, Nat.zero_add, Nat.add_zero, Nat.reduceAdd, List.cons_append, List.nil_append, List.eraseIdx_cons_zero, List.eraseIdx_cons_succ])
    repeat (first | refine AI_seqk fun K hK => ?_ | refine AI_reg ?_ | ((first | refine wmv rfl ?_ | refine wag rfl ?_ | refine war _ rfl rfl rfl (by omega) (by omega) ?_ | refine wbn rfl rfl rfl ?_ | refine wnt rfl ?_ | refine wex rfl rfl ?_ | refine wpt rfl (by first | assumption | with_reducible rfl) rfl ?_ | refine wpf rfl (by first | assumption | with_reducible rfl) rfl ?_ | refine wpb rfl rfl rfl ?_ | refine wmf rfl ?_ | refine wnc rfl ?_ | refine wbq Try.underlying4 rfl rfl _ (.inr ⟨rfl, rfl⟩) ?_ | refine wbq Try.underlying4 rfl rfl _ (.inl ⟨rfl, rfl⟩) ?_); try dsimp only [st, List.set_cons_zero, List.set_cons_succ]) | ((first | refine AS_nil ?_ | refine AI_skip ?_ | refine AI_exit ?_); try simp only [AThen, ABlk, reduceIte, reduceCtorEq]) | ((first | refine hK _ _ ?_ | ((first | clear hK K | clear IH hK K); refine hK _ _ ?_) | ((first | clear hK K | clear IH hK K); (first | clear hK K | clear IH hK K); refine hK _ _ ?_) | ((first | clear hK K | clear IH hK K); (first | clear hK K | clear IH hK K); (first | clear hK K | clear IH hK K); refine hK _ _ ?_)); try (first | clear hK K | clear IH hK K)) | refine AI_cond_t rfl (by first | assumption | with_reducible rfl) ?_ | refine AI_cond_f rfl (by first | assumption | with_reducible rfl) ?_ | refine AS_gy rfl (by first | assumption | with_reducible rfl) ?_ | refine AS_gtn rfl (by first | assumption | with_reducible rfl) ?_ | refine AS_gfn rfl (by first | assumption | with_reducible rfl) ?_ | refine AI_block (AI_loop ?_) | refine AI_block ?_ | refine AI_ret ⟨_, rfl, ?_⟩)
    refine AS_op (OpR_conv Try.underlying3 Try.underlying67 rfl ?_)
    try (dsimp only [st, setL, AV.cells, List.set_cons_zero, List.set_cons_succ, List.drop_zero, List.drop_succ_cons, List.take_zero, List.take_succ_cons, Nat.zero_add, Nat.add_zero, Nat.reduceAdd, List.cons_append, List.nil_append, List.eraseIdx_cons_zero, List.eraseIdx_cons_succ])
    repeat (first | refine AI_seqk fun K hK => ?_ | refine AI_reg ?_ | ((first | refine wmv rfl ?_ | refine wag rfl ?_ | refine war _ rfl rfl rfl (by omega) (by omega) ?_ | refine wbn rfl rfl rfl ?_ | refine wnt rfl ?_ | refine wex rfl rfl ?_ | refine wpt rfl (by first | assumption | with_reducible rfl) rfl ?_ | refine wpf rfl (by first | assumption | with_reducible rfl) rfl ?_ | refine wpb rfl rfl rfl ?_ | refine wmf rfl ?_ | refine wnc rfl ?_ | refine wbq Try.underlying4 rfl rfl _ (.inr ⟨rfl, rfl⟩) ?_ | refine wbq Try.underlying4 rfl rfl _ (.inl ⟨rfl, rfl⟩) ?_); try dsimp only [st, List.set_cons_zero, List.set_cons_succ]) | ((first | refine AS_nil ?_ | refine AI_skip ?_ | refine AI_exit ?_); try simp only [AThen, ABlk, reduceIte, reduceCtorEq]) | ((first | refine hK _ _ ?_ | ((first | clear hK K | clear IH hK K); refine hK _ _ ?_) | ((first | clear hK K | clear IH hK K); (first | clear hK K | clear IH hK K); refine hK _ _ ?_) | ((first | clear hK K | clear IH hK K); (first | clear hK K | clear IH hK K); (first | clear hK K | clear IH hK K); refine hK _ _ ?_)); try (first | clear hK K | clear IH hK K)) | refine AI_cond_t rfl (by first | assumption | with_reducible rfl) ?_ | refine AI_cond_f rfl (by first | assumption | with_reducible rfl) ?_ | refine AS_gy rfl (by first | assumption | with_reducible rfl) ?_ | refine AS_gtn rfl (by first | assumption | with_reducible rfl) ?_ | refine AS_gfn rfl (by first | assumption | with_reducible rfl) ?_ | refine AI_block (AI_loop ?_) | refine AI_block ?_ | refine AI_ret ⟨_, rfl, ?_⟩)
    rw [s10]
    refine AS_op (OpR_call rfl rfl (Len_ac _ _ (by omega) (by omega)) ?_)
    rintro _ _ wf4 ⟨rfl, rfl⟩
    try (dsimp only [st, setL, AV.cells, List.set_cons_zero, List.set_cons_succ, List.drop_zero, List.drop_succ_cons, List.take_zero, List.take_succ_cons, Nat.zero_add, Nat.add_zero, Nat.reduceAdd, List.cons_append, List.nil_append, List.eraseIdx_cons_zero, List.eraseIdx_cons_succ])
    repeat (first | refine AI_seqk fun K hK => ?_ | refine AI_reg ?_ | ((first | refine wmv rfl ?_ | refine wag rfl ?_ | refine war _ rfl rfl rfl (by omega) (by omega) ?_ | refine wbn rfl rfl rfl ?_ | refine wnt rfl ?_ | refine wex rfl rfl ?_ | refine wpt rfl (by first | assumption | with_reducible rfl) rfl ?_ | refine wpf rfl (by first | assumption | with_reducible rfl) rfl ?_ | refine wpb rfl rfl rfl ?_ | refine wmf rfl ?_ | refine wnc rfl ?_ | refine wbq Try.underlying4 rfl rfl _ (.inr ⟨rfl, rfl⟩) ?_ | refine wbq Try.underlying4 rfl rfl _ (.inl ⟨rfl, rfl⟩) ?_); try dsimp only [st, List.set_cons_zero, List.set_cons_succ]) | ((first | refine AS_nil ?_ | refine AI_skip ?_ | refine AI_exit ?_); try simp only [AThen, ABlk, reduceIte, reduceCtorEq]) | ((first | refine hK _ _ ?_ | ((first | clear hK K | clear IH hK K); refine hK _ _ ?_) | ((first | clear hK K | clear IH hK K); (first | clear hK K | clear IH hK K); refine hK _ _ ?_) | ((first | clear hK K | clear IH hK K); (first | clear hK K | clear IH hK K); (first | clear hK K | clear IH hK K); refine hK _ _ ?_)); try (first | clear hK K | clear IH hK K)) | refine AI_cond_t rfl (by first | assumption | with_reducible rfl) ?_ | refine AI_cond_f rfl (by first | assumption | with_reducible rfl) ?_ | refine AS_gy rfl (by first | assumption | with_reducible rfl) ?_ | refine AS_gtn rfl (by first | assumption | with_reducible rfl) ?_ | refine AS_gfn rfl (by first | assumption | with_reducible rfl) ?_ | refine AI_block (AI_loop ?_) | refine AI_block ?_ | refine AI_ret ⟨_, rfl, ?_⟩)
    refine ⟨?_, rfl⟩
    rw [loM, if_pos hv]
    rfl

/-! ### Plans that are run -/
theorem Clone_int_ac (l : List Int) (v : AV) (h : AH) (hR : RdG 1 enI h v l) (hl : l.length ≤ 1048576) :
    AC Try.prog 72 [v] h (fun r h' => Own h 1 enI h' r l) := by
  rcases hR.rd with rfl | ⟨b, o, c, rfl, g1, g2⟩
  · have hl0 : l = [] := by have := hR.len; simp [lenA] at this; exact List.length_eq_zero_iff.1 this.symm
    subst hl0
    refine e72 _ fun wf => ?_
    unfold c72
    refine LI_start wf ?_
    refine W ?_
    refine LS_snl rfl rfl true true (.inl ⟨rfl, rfl⟩) (.inl ⟨rfl, rfl⟩) ?_
    try (dsimp only [st, setL, AV.cells, List.set_cons_zero, List.set_cons_succ, List.drop_zero, List.drop_succ_cons, List.take_zero, List.take_succ_cons, Nat.zero_add, Nat.add_zero, Nat.reduceAdd, List.cons_append, List.nil_append, List.eraseIdx_cons_zero, List.eraseIdx_cons_succ])
    refine W ?_
    refine RET fun h' HL => ?_
    try dsimp only [oneA]
    exact Own.nil HL.wf0 HL.le HL.wf _ _
  · refine e72 _ fun wf => ?_
    unfold c72
    refine LI_start wf ?_
    refine W ?_
    refine LS_snl rfl rfl false false (.inr ⟨_, _, _, _, rfl, rfl⟩) (.inl ⟨rfl, rfl⟩) ?_
    try (dsimp only [st, setL, AV.cells, List.set_cons_zero, List.set_cons_succ, List.drop_zero, List.drop_succ_cons, List.take_zero, List.take_succ_cons, Nat.zero_add, Nat.add_zero, Nat.reduceAdd, List.cons_append, List.nil_append, List.eraseIdx_cons_zero, List.eraseIdx_cons_succ])
    refine W ?_
    refine LS_lt ([] : List Int) rfl rfl (by decide) rfl rfl rfl rfl enI1 rfl rfl fun w1 h1 s1 => ?_
    try (dsimp only [st, setL, AV.cells, List.set_cons_zero, List.set_cons_succ, List.drop_zero, List.drop_succ_cons, List.take_zero, List.take_succ_cons, Nat.zero_add, Nat.add_zero, Nat.reduceAdd, List.cons_append, List.nil_append, List.eraseIdx_cons_zero, List.eraseIdx_cons_succ])
    refine W ?_
    refine LS_ap0 0 rfl (fun h' HL => hR.le HL.le) enI1 (by decide) (by simp; omega) (by simp; omega) rfl rfl rfl fun w2 hw2 sw2 => ?_
    try (dsimp only [st, setL, AV.cells, List.set_cons_zero, List.set_cons_succ, List.drop_zero, List.drop_succ_cons, List.take_zero, List.take_succ_cons, Nat.zero_add, Nat.add_zero, Nat.reduceAdd, List.cons_append, List.nil_append, List.eraseIdx_cons_zero, List.eraseIdx_cons_succ])
    refine W ?_
    refine RET fun h' HL => ?_
    try dsimp only [oneA]
    exact HL.ownI 0 rfl enI1 (by decide)

theorem l1Own_ac (l : List Int) (v : AV) (h : AH) (hR : Rd h v l) (hl : l.length ≤ 1048576) :
    AC Try.prog 88 [v] h (fun r h' => Own h 1 enI h' r l) := by
  refine e88 _ fun wf => ?_
  unfold c88
  refine LI_start wf ?_
  refine W ?_
  refine LS_lt ([] : List Int) rfl rfl (by decide) rfl rfl rfl rfl enI1 rfl rfl fun w1 h1 s1 => ?_
  try (dsimp only [st, setL, AV.cells, List.set_cons_zero, List.set_cons_succ, List.drop_zero, List.drop_succ_cons, List.take_zero, List.take_succ_cons, Nat.zero_add, Nat.add_zero, Nat.reduceAdd, List.cons_append, List.nil_append, List.eraseIdx_cons_zero, List.eraseIdx_cons_succ])
  refine W ?_
  refine LS_ap0 0 rfl (fun h' HL => hR.le HL.le) enI1 (by decide) (by simp; omega) (by simp; omega) rfl rfl rfl fun w2 hw2 sw2 => ?_
  try (dsimp only [st, setL, AV.cells, List.set_cons_zero, List.set_cons_succ, List.drop_zero, List.drop_succ_cons, List.take_zero, List.take_succ_cons, Nat.zero_add, Nat.add_zero, Nat.reduceAdd, List.cons_append, List.nil_append, List.eraseIdx_cons_zero, List.eraseIdx_cons_succ])
  refine W ?_
  refine RET fun h' HL => ?_
  try dsimp only [oneA]
  exact HL.ownI 0 rfl enI1 (by decide)

def TupQ (l : List MatM) (ok : Bool) (r : AV) (M : List It) : Prop := ∃ w, r = .tup [w, .b ok] ∧ lenA w = some l.length ∧ w.sc = true ∧ M = [.sl w 4 (l.flatMap enMat)]

theorem TupQ.of {l : List MatM} {ok : Bool} {h0 h : AH} {w : AV} (H : Own h0 4 enMat h w l) : ∃ M, TupQ l ok (.tup [w, .b ok]) M ∧ Loq h0 h M := ⟨_, ⟨w, rfl, H.rd.len, rd_sc H.rd, rfl⟩, H.loc enMat4⟩

theorem TupQ.none {h0 h : AH} {L : List It} (H : Loq h0 h L) : ∃ M, TupQ [] false (.tup [.ns, .b false]) M ∧ Loq h0 h M := ⟨_, ⟨.ns, rfl, rfl, rfl, rfl⟩, loq_ns (H.sub (List.nil_sublist _)) 4⟩

def zeroP : AV := .agg [.i .i64 0, .ns, .ns]

/-- A plan handed back, and whether. -/
def TupP (q : PlanM) (ok : Bool) (r : AV) (M : List It) : Prop := ∃ ws wo, r = .tup [.agg [.i .i64 q.n, ws, wo], .b ok] ∧ lenA ws = some q.steps.length ∧ ws.sc = true ∧ lenA wo = some q.outs.length ∧ wo.sc = true ∧ M = [.sl ws 2 (q.steps.flatMap enStep), .sl wo 1 (q.outs.flatMap enI)]

theorem TupP.none {h0 h : AH} {L : List It} (H : Loq h0 h L) : ∃ M, TupP emptyPlan false (.tup [zeroP, .b false]) M ∧ Loq h0 h M := ⟨_, ⟨.ns, .ns, rfl, rfl, rfl, rfl, rfl, rfl⟩, loq_ns (loq_ns (H.sub (List.nil_sublist _)) 1) 2⟩

theorem fdiv_pow {x : Int} (h0 : 0 ≤ x) (k : Nat) : x.fdiv (2 ^ k) = ((x.toNat / 2 ^ k : Nat) : Int) := by
  obtain ⟨n, rfl⟩ : ∃ n : Nat, x = n := ⟨x.toNat, by omega⟩
  rw [Int.fdiv_eq_ediv_of_nonneg _ (by exact Int.le_of_lt (Int.pow_pos (by decide)))]
  simp

theorem and1 {y : Int} (h0 : 0 ≤ y) (h1 : y ≤ 4294967296) : IntKind.i64.wrap (BitVec.ofInt IntKind.i64.bits y &&& BitVec.ofInt IntKind.i64.bits 1).toNat = y % 2 := by
  obtain ⟨n, rfl⟩ : ∃ n : Nat, y = n := ⟨y.toNat, by omega⟩
  have e : (BitVec.ofInt IntKind.i64.bits (n : Int) &&& BitVec.ofInt IntKind.i64.bits 1).toNat = n % 2 := by
    rw [BitVec.toNat_and, BitVec.toNat_ofInt, BitVec.toNat_ofInt]
    rw [show ((1 : Int) % ((2 ^ IntKind.i64.bits : Nat) : Int)).toNat = 1 by decide]
    rw [show ((n : Int) % ((2 ^ IntKind.i64.bits : Nat) : Int)).toNat = n by
      rw [show ((2 ^ IntKind.i64.bits : Nat) : Int) = 18446744073709551616 by decide]; omega]
    exact Nat.and_one_is_mod n
  rw [e, IntWalk.i64_in _ (by omega)]
  omega

theorem LS_shk {P : Program} {h0 : AH} {L : List It} {Q : Exit → List AV → List It → Prop} {a : List AV} {l : List IOp} {d : Option Nat} {T T' : TypeId} {x y : Operand} {k k' : IntKind} {m n : Int} (hx : ev a x = some (.i k m)) (hy : ev a y = some (.i k' n)) (hn : 0 ≤ n) (hn2 : n ≤ 31) (hm : 0 ≤ m) (hk : 32 ≤ k.bits)
    (H : LS P h0 L l Q (st a d (.i k ((m.toNat / 2 ^ n.toNat : Nat) : Int)))) : LS P h0 L (⟨d, .binOp .shr T x y T', none⟩ :: l) Q a := by
  have := OpV_shr (P := P) (T := T) (T' := T') hx hy hn
  rw [show min n.toNat k.bits = n.toNat by omega, fdiv_pow hm] at this
  exact LS_v this H

def TupPP (q1 q2 : PlanM) (ok : Bool) (r : AV) (M : List It) : Prop := ∃ ws wo xs xo, r = .tup [.agg [.i .i64 q1.n, ws, wo], .agg [.i .i64 q2.n, xs, xo], .b ok] ∧ (lenA ws = some q1.steps.length ∧ ws.sc = true ∧ lenA wo = some q1.outs.length ∧ wo.sc = true) ∧ (lenA xs = some q2.steps.length ∧ xs.sc = true ∧ lenA xo = some q2.outs.length ∧ xo.sc = true) ∧ M = [.sl ws 2 (q1.steps.flatMap enStep), .sl wo 1 (q1.outs.flatMap enI), .sl xs 2 (q2.steps.flatMap enStep), .sl xo 1 (q2.outs.flatMap enI)]

theorem TupPP.none {h0 h : AH} {L : List It} (H : Loq h0 h L) : ∃ M, TupPP emptyPlan emptyPlan false (.tup [zeroP, zeroP, .b false]) M ∧ Loq h0 h M := ⟨_, ⟨.ns, .ns, .ns, .ns, rfl, ⟨rfl, rfl, rfl, rfl⟩, ⟨rfl, rfl, rfl, rfl⟩, rfl⟩, loq_ns (loq_ns (loq_ns (loq_ns (H.sub (List.nil_sublist _)) 1) 2) 1) 2⟩

/-! ### Orders of the steps, as they are told one by one -/
theorem LO_apc {P : Program} {h0 : AH} {L : List It} {a : List AV} {d : Option Nat} {X : List AV → List It → Prop} {α : Type} {k : Nat} {enc : α → List AV} {T e : TypeId} {x y : Operand} {v u : AV} {ll l' : List α} {bytes : Nat} {z : AV} [i1 : Tsl P T e] [i2 : Tsz P e k] [i4 : Tby P e bytes] [i3 : Tze P e z]
    (hv : v = .ns ∨ ∃ b o n, v = .sl b o n true) (hRv : ∀ h, Loq h0 h L → RdG k enc h v ll) (hR : ∀ h, Loq h0 h L → RdG k enc h u l')
    (hke : ∀ x, (enc x).length = k) (hk0 : 0 < k) (hne : l' ≠ []) (hbd : (ll.length + l'.length) * bytes ≤ 140737488355328) (hbd2 : ll.length + l'.length ≤ 4611686018427387904) (hzl : z.cells.length = k)
    (hx : ev a x = some v) (hy : ev a y = some u) (H : ∀ w, lenA w = some (ll ++ l').length → w.sc = true → X (st a d w) (.sl w k ((ll ++ l').flatMap enc) :: L)) :
    LO P h0 L (.call { callee := .builtin .append, args := #[x, y], argTypes := #[T, T] }) d X a := by
  intro h HL
  have hRv' := hRv h HL
  have hR' := hR h HL
  rcases hv with rfl | ⟨b, o, n, rfl⟩
  · have hll : ll = [] := by
      have e := hRv'.len
      simp [lenA] at e
      exact List.eq_nil_of_length_eq_zero e.symm
    subst hll
    have HL1 : Loq h0 h (.sl .ns k (([] : List α).flatMap enc) :: L) := HL.cons (.inl ⟨rfl, rfl⟩) fun y hy => .sl fun b e => by cases e
    exact LO_ap (X := X) 0 rfl (fun h1 HL' => hR h1 HL'.tail) hke hk0 hne hbd hbd2 hzl hx hy H h HL1
  · rcases hRv'.rd with e1 | ⟨b', o', c', e1, hrow, _⟩
    · cases e1
    · injection e1 with q1 q2 q3 q4
      subst q1; subst q2; subst q3
      rcases hR'.rd with e2 | ⟨b2, o2, c2, rfl, hrow2, _⟩
      · subst e2
        have e := hR'.len
        simp [lenA] at e
        exact absurd (List.eq_nil_of_length_eq_zero e.symm) hne
      · have hpos : 0 < l'.length := List.length_pos_iff.2 hne
        exact OpR_append_clip i1.e i2.e i4.e i3.e hzl hx hy hpos hrow hrow2 hbd hbd2 ⟨_, HL.newS hke (ll ++ l') false (by simp) (by simp), H _ (by simp [lenA]) rfl⟩

def clipA : AV → AV
  | .sl b o n _ => .sl b o n true
  | v => v

theorem clipA_rd {h : AH} {v : AV} {l : List Int} (H : Rd h v l) : Rd h (clipA v) l := by
  rcases H.rd with rfl | ⟨b, o, c, rfl, h1, h2⟩
  · exact H
  · exact ⟨rfl, .inr ⟨b, o, true, rfl, h1, h2⟩⟩

theorem clipA_c {h : AH} {v : AV} {l : List Int} (H : Rd h v l) : clipA v = .ns ∨ ∃ b o n, clipA v = .sl b o n true := by
  rcases H.rd with rfl | ⟨b, o, c, rfl, h1, h2⟩
  · exact .inl rfl
  · exact .inr ⟨_, _, _, rfl⟩

theorem OpV_c3 {P : Program} {a : List AV} {T e : TypeId} {x hi mx : Operand} {b off len k : Nat} {c : Bool} {m : Int} [i1 : Tsl P T e] [i2 : Tsz P e k] (hx : ev a x = some (.sl b off len c)) (hh : ev a hi = some (.i .i64 m)) (hm : ev a mx = some (.i .i64 m)) (h1 : m = len) :
    OpV P (.slice T x none (some hi) (some mx)) a (.sl b off len true) := by
  unfold OpV
  intro ι ca hr o ho
  subst h1
  obtain ⟨pl, y, cap, hpl, hq, hle, hcl, hxx⟩ := rel_sl (ev_rel hr hx)
  have e1 := rel_i (ev_rel hr hh)
  have e2 := rel_i (ev_rel hr hm)
  have hrun : ∀ w, (Instr.sliceBounds true len cap none (some (ca.eval hi)) (some (ca.eval mx))).run P w = .ok (0, len, len) w := fun w => by
    simp [Instr.sliceBounds, e1, e2, run_sliceBound (show (0 : Int) ≤ len by omega) (show ((len : Int)).toNat ≤ cap by omega), run_sliceBound (show (0 : Int) ≤ len by omega) (show ((len : Int)).toNat ≤ len by omega)]
  refine ⟨.slice (some (if len = 0 then y else y.add (0 * k))) (len - 0) (len - 0), fun w => ?_, ?_⟩
  · unfold execOp
    simp only [ho, hq, Instr.sliceAt, Sem.run_bind, run_underlying i1.e, Result.andThen_ok, Option.map_none, Instr.slice, hrun, run_sizeOf_sz i2.e, Sem.run_pure, Option.map_some]
    by_cases e : len = 0 <;> simp [e]
  · refine .sl b off _ true pl _ len hpl (Nat.le_refl _) (fun _ => rfl) ?_
    by_cases e : len = 0
    · exact .inl e
    · rw [if_neg e]
      have hc0 : ¬ cap = 0 := by omega
      obtain ⟨e3, e4⟩ := hxx.resolve_left hc0
      refine .inr ⟨by rw [e3, add_none]; simp, ?_⟩
      have := Nat.mul_le_mul_right pl.k hle
      omega

theorem OpV_n3 {P : Program} {a : List AV} {T e : TypeId} {x hi mx : Operand} {k : Nat} [i1 : Tsl P T e] [i2 : Tsz P e k] (hx : ev a x = some .ns) (hh : ev a hi = some (.i .i64 0)) (hm : ev a mx = some (.i .i64 0)) :
    OpV P (.slice T x none (some hi) (some mx)) a .ns := by
  unfold OpV
  intro ι ca hr o ho
  have hq : ca.eval x = .slice none 0 0 := by
    have := ev_rel hr hx
    generalize ca.eval x = q at this
    cases this; rfl
  have e1 := rel_i (ev_rel hr hh)
  have e2 := rel_i (ev_rel hr hm)
  have hrun : ∀ w, (Instr.sliceBounds true 0 0 none (some (ca.eval hi)) (some (ca.eval mx))).run P w = .ok (0, 0, 0) w := fun w => by
    simp [Instr.sliceBounds, e1, e2, run_sliceBound (show (0 : Int) ≤ 0 by omega) (show ((0 : Int)).toNat ≤ 0 by omega)]
  refine ⟨.slice none 0 0, fun w => ?_, .ns⟩
  unfold execOp
  simp only [ho, hq, Instr.sliceAt, Sem.run_bind, run_underlying i1.e, Result.andThen_ok, Option.map_none, Instr.slice, hrun, run_sizeOf_sz i2.e, Sem.run_pure, Option.map_some]
  simp

theorem Clip_ac (l : List Int) (v : AV) (h : AH) (hR : Rd h v l) (hl : l.length ≤ 1048576) : AC Try.prog 92 [v] h (fun r h' => r = clipA v ∧ h.le h') := by
  have hln := hR.len
  rcases hR.rd with rfl | ⟨b, o, c, rfl, _, _⟩
  · obtain rfl : l = [] := by simp [lenA] at hln; exact List.eq_nil_of_length_eq_zero hln.symm
    refine e92 _ fun wf => ?_
    unfold c92
    refine LI_start wf ?_
    refine W ?_
    refine LS_v (OpV_n3 rfl rfl rfl) ?_
    try (dsimp only [st, setL, AV.cells, List.set_cons_zero, List.set_cons_succ, List.drop_zero, List.drop_succ_cons, List.take_zero, List.take_succ_cons, Nat.zero_add, Nat.add_zero, Nat.reduceAdd, List.cons_append, List.nil_append, List.eraseIdx_cons_zero, List.eraseIdx_cons_succ])
    refine W ?_
    refine RET fun h' HL => ?_
    try dsimp only [oneA]
    exact ⟨rfl, HL.le⟩
  · refine e92 _ fun wf => ?_
    unfold c92
    refine LI_start wf ?_
    refine W ?_
    refine LS_v (OpV_c3 rfl rfl rfl rfl) ?_
    try (dsimp only [st, setL, AV.cells, List.set_cons_zero, List.set_cons_succ, List.drop_zero, List.drop_succ_cons, List.take_zero, List.take_succ_cons, Nat.zero_add, Nat.add_zero, Nat.reduceAdd, List.cons_append, List.nil_append, List.eraseIdx_cons_zero, List.eraseIdx_cons_succ])
    refine W ?_
    refine RET fun h' HL => ?_
    try dsimp only [oneA]
    exact ⟨rfl, HL.le⟩

theorem loq_dr {h0 h : AH} {L M : List It} (n : Nat) (e : L.drop n = M) (H : Loq h0 h L) : Loq h0 h M := by
  subst e
  exact H.sub (List.drop_sublist n L)

theorem rSame_ac (l : List Int) (v u : AV) (h : AH) (hv : Rd h v l) (hu : Rd h u l) (hl : l.length ≤ 4611686018427387904) :
    AC Try.prog 38 [v, u] h (fun r h' => r = .b true ∧ h.le h') := by
  have hvl := hv.len
  have hul := hu.len
  refine e38 _ _ fun wf => ?_
  unfold c38
  refine LI_start wf ?_
  refine W ?_
  first | (refine LS_gtnH rfl (by simp) ?_; intro hg; try (dsimp only [st, setL, AV.cells, List.set_cons_zero, List.set_cons_succ, List.drop_zero, List.drop_succ_cons, List.take_zero, List.take_succ_cons, Nat.zero_add, Nat.add_zero, Nat.reduceAdd, List.cons_append, List.nil_append, List.eraseIdx_cons_zero, List.eraseIdx_cons_succ])) | (refine LS_gfnH rfl (by simp) ?_; intro hg; try (dsimp only [st, setL, AV.cells, List.set_cons_zero, List.set_cons_succ, List.drop_zero, List.drop_succ_cons, List.take_zero, List.take_succ_cons, Nat.zero_add, Nat.add_zero, Nat.reduceAdd, List.cons_append, List.nil_append, List.eraseIdx_cons_zero, List.eraseIdx_cons_succ])) | (refine LI_cond_fH rfl (by simp) ?_; intro hg)
  refine W ?_
  refine LIL_ind (fun k a L => ∃ (i : Int), (∃ r : Nat → AV, a = [v, u, r 2, r 3, .b false, r 5, r 6, r 7, r 8, r 9, r 10, r 11, .i .i64 l.length, .i .i64 i, r 14, r 15, r 16, r 17, r 18, r 19, r 20, r 21, r 22, r 23, r 24, r 25]) ∧ L = [] ∧ 0 ≤ i ∧ i + k = l.length)
    l.length ⟨0, exJ rfl, rfl, by omega, by omega⟩ ?_
  rintro k a L ⟨i, ⟨r, rfl⟩, rfl, h0, hk⟩ IH
  refine W ?_
  (first | refine LS_gt rfl ?_ ?_ | refine LS_gf rfl ?_ ?_ | refine LI_cond rfl ?_ ?_) <;> intro hc <;> have hc' := hc <;> try simp only [decide_eq_true_eq, decide_eq_false_iff_not, Bool.not_eq_true', Bool.not_eq_false', Bool.not_eq_true, Bool.not_eq_false, beq_iff_eq, bne_iff_ne, beq_eq_false_iff_ne, bne_eq_false_iff_eq, Int.not_lt, Int.not_le, ge_iff_le, gt_iff_lt, not_and, ne_eq, Decidable.not_not] at hc'
  all_goals (try (dsimp only [st, setL, AV.cells, List.set_cons_zero, List.set_cons_succ, List.drop_zero, List.drop_succ_cons, List.take_zero, List.take_succ_cons, Nat.zero_add, Nat.add_zero, Nat.reduceAdd, List.cons_append, List.nil_append, List.eraseIdx_cons_zero, List.eraseIdx_cons_succ]))
  all_goals (refine W ?_)
  · obtain ⟨y, hy, hym, _⟩ := drop_at (l := l) h0 hc'
    refine dz38_0 ?_
    refine WX ?_
    refine W ?_
    refine LX_ix (fun h' HL => hv.le HL.le) enI1 hy h0 rfl rfl noG fun q1 o1 hrow1 => ?_
    try (dsimp only [st, setL, AV.cells, List.set_cons_zero, List.set_cons_succ, List.drop_zero, List.drop_succ_cons, List.take_zero, List.take_succ_cons, Nat.zero_add, Nat.add_zero, Nat.reduceAdd, List.cons_append, List.nil_append, List.eraseIdx_cons_zero, List.eraseIdx_cons_succ])
    refine WX ?_
    refine W ?_
    refine LX_ix (fun h' HL => hu.le HL.le) enI1 hy h0 rfl rfl noG fun q2 o2 hrow2 => ?_
    try (dsimp only [st, setL, AV.cells, List.set_cons_zero, List.set_cons_succ, List.drop_zero, List.drop_succ_cons, List.take_zero, List.take_succ_cons, Nat.zero_add, Nat.add_zero, Nat.reduceAdd, List.cons_append, List.nil_append, List.eraseIdx_cons_zero, List.eraseIdx_cons_succ])
    refine WX ?_
    refine W ?_
    first | (refine LS_gtnH rfl (by simp) ?_; intro hg; try (dsimp only [st, setL, AV.cells, List.set_cons_zero, List.set_cons_succ, List.drop_zero, List.drop_succ_cons, List.take_zero, List.take_succ_cons, Nat.zero_add, Nat.add_zero, Nat.reduceAdd, List.cons_append, List.nil_append, List.eraseIdx_cons_zero, List.eraseIdx_cons_succ])) | (refine LS_gfnH rfl (by simp) ?_; intro hg; try (dsimp only [st, setL, AV.cells, List.set_cons_zero, List.set_cons_succ, List.drop_zero, List.drop_succ_cons, List.take_zero, List.take_succ_cons, Nat.zero_add, Nat.add_zero, Nat.reduceAdd, List.cons_append, List.nil_append, List.eraseIdx_cons_zero, List.eraseIdx_cons_succ])) | (refine LI_cond_fH rfl (by simp) ?_; intro hg)
    refine W ?_
    refine IH (k - 1) _ _ (by omega) ⟨i + 1, exJ rfl, rfl, by omega, by omega⟩
  · refine RET fun h' HL => ?_
    try dsimp only [oneA]
    exact ⟨rfl, HL.le⟩

/-! ### Star chains: plain laws -/
def lastD (c : List Int) : Int := c.getLastD 0

theorem lastD_snoc (c : List Int) (x : Int) : lastD (c ++ [x]) = x := by simp [lastD]

/-- All star chains that go on a chain by so many elements and end in n, in order. -/
def allS (n : Int) : Nat → List Int → List (List Int)
  | 0, c => if lastD c = n then [c] else []
  | k + 1, c => c.flatMap fun x => allS n k (c ++ [lastD c + x])

def goodC (c : List Int) : Prop := c ≠ [] ∧ ∀ x ∈ c, 1 ≤ x ∧ x ≤ lastD c

theorem goodC_one : goodC [1] := ⟨by simp, by simp [lastD]⟩

theorem goodC.last {c : List Int} (h : goodC c) : 1 ≤ lastD c := by
  obtain ⟨h1, h2⟩ := h
  cases c with
  | nil => exact absurd rfl h1
  | cons x l => have := h2 x (by simp); omega

theorem goodC_snoc {c : List Int} (h : goodC c) {x : Int} (hx : x ∈ c) : goodC (c ++ [lastD c + x]) := by
  have h1 := h.2 x hx
  refine ⟨by simp, fun y hy => ?_⟩
  rw [lastD_snoc]
  rcases List.mem_append.1 hy with hy | hy
  · have := h.2 y hy; omega
  · rw [List.mem_singleton.1 hy]; have := h.last; omega

theorem allS_gt {n : Int} : ∀ (k : Nat) (c : List Int), goodC c → n < lastD c → allS n k c = []
  | 0, c, _, h => by rw [allS, if_neg (by omega)]
  | k + 1, c, hg, h => by
    rw [allS, List.flatMap_eq_nil_iff]
    intro x hx
    have := hg.2 x hx
    exact allS_gt k _ (goodC_snoc hg hx) (by rw [lastD_snoc]; omega)

theorem allS_ge {n : Int} (k : Nat) (c : List Int) (hg : goodC c) (h : n ≤ lastD c) : allS n (k + 1) c = [] := by
  rw [allS, List.flatMap_eq_nil_iff]
  intro x hx
  have := hg.2 x hx
  exact allS_gt k _ (goodC_snoc hg hx) (by rw [lastD_snoc]; omega)

theorem allS_lt {n : Int} : ∀ (k : Nat) (c : List Int), goodC c → lastD c * 2 ^ k < n → allS n k c = []
  | 0, c, _, h => by rw [allS, if_neg (by simp at h; omega)]
  | k + 1, c, hg, h => by
    rw [allS, List.flatMap_eq_nil_iff]
    intro x hx
    have h1 := hg.2 x hx
    refine allS_lt k _ (goodC_snoc hg hx) ?_
    rw [lastD_snoc]
    have h2 : (lastD c + x) * 2 ^ k ≤ (2 * lastD c) * 2 ^ k := Int.mul_le_mul_of_nonneg_right (by omega) (Int.le_of_lt (Int.pow_pos (by omega)))
    rw [Int.pow_succ] at h
    have h3 : 2 * lastD c * 2 ^ k = lastD c * (2 ^ k * 2) := by rw [Int.mul_comm 2, Int.mul_assoc, Int.mul_comm 2]
    omega

/-- What of the chains the reference's search takes. -/
theorem take_step {α : Type} (l1 l2 : List α) (m : Nat) : (l1 ++ l2).take m = l1.take m ++ l2.take (m - (l1.take m).length) := by
  rw [List.take_append, List.length_take]
  congr 2
  omega

/-- What the program's search does, that hands on chain after chain until one is enough. -/
def foldU {σ : Type} (f : σ → List Int → σ × Bool) : σ → List (List Int) → σ × Bool
  | s, [] => (s, false)
  | s, c :: cs => if (f s c).2 = true then ((f s c).1, true) else foldU f (f s c).1 cs

theorem foldU_app {σ : Type} (f : σ → List Int → σ × Bool) : ∀ (l1 l2 : List (List Int)) (s : σ), foldU f s (l1 ++ l2) = if (foldU f s l1).2 = true then foldU f s l1 else foldU f (foldU f s l1).1 l2
  | [], l2, s => by simp [foldU]
  | c :: cs, l2, s => by
    rw [List.cons_append, foldU, foldU]
    by_cases h : (f s c).2 = true
    · simp [h]
    · simp only [h, if_false, Bool.false_eq_true]
      exact foldU_app f cs l2 _

/-! How many go on. -/
def liveQ (n : Int) : Nat → List Int → List Int → List Int
  | 0, c, cnt => if n < lastD c ∨ lastD c < n then cnt else bump cnt (c.length - 1 : Nat)
  | k + 1, c, cnt => if n < lastD c ∨ lastD c * 2 ^ (k + 1) < n then cnt else c.foldl (fun cnt x => liveQ n k (c ++ [lastD c + x]) cnt) (bump cnt (c.length - 1 : Nat))

theorem bump_len (l : List Int) (j : Int) : (bump l j).length = l.length := by simp [bump]

theorem bump_get {l : List Int} {j i : Nat} (hj : j < l.length) : (bump l (j : Nat)).getD i 0 = if i = j then l.getD i 0 + 1 else l.getD i 0 := by
  simp only [bump, Int.toNat_natCast, List.getD, List.getElem?_set]
  by_cases h : j = i
  · subst h; simp [hj]
  · rw [if_neg h, if_neg (fun e => h e.symm)]

theorem bump_le {l : List Int} {j : Nat} (i : Nat) : l.getD i 0 ≤ (bump l (j : Nat)).getD i 0 ∧ (bump l (j : Nat)).getD i 0 ≤ l.getD i 0 + 1 := by
  by_cases hj : j < l.length
  · rw [bump_get hj]; split <;> omega
  · have : bump l (j : Nat) = l := by
      simp only [bump, Int.toNat_natCast]
      exact List.set_eq_of_length_le (by omega)
    rw [this]; omega

theorem fold_len {α : Type} {f : List Int → α → List Int} : ∀ (l : List α) (s : List Int), (∀ s x, x ∈ l → (f s x).length = s.length) → (l.foldl f s).length = s.length
  | [], s, _ => rfl
  | x :: l, s, h => by rw [List.foldl_cons, fold_len l _ (fun s y hy => h s y (by simp [hy])), h s x (by simp)]

theorem liveQ_len {n : Int} : ∀ (k : Nat) (c cnt : List Int), (liveQ n k c cnt).length = cnt.length
  | 0, c, cnt => by rw [liveQ]; split <;> simp [bump_len]
  | k + 1, c, cnt => by
    rw [liveQ]
    split
    · rfl
    · rw [fold_len _ _ fun s x _ => liveQ_len k _ s, bump_len]

/-- How much the counts can grow. -/
def growB : Nat → Nat → Int
  | 0, _ => 1
  | k + 1, l => 1 + l * growB k (l + 1)

theorem growB_pos : ∀ (k l : Nat), 1 ≤ growB k l
  | 0, _ => by rw [growB]; omega
  | k + 1, l => by
    have := Int.mul_nonneg (show (0 : Int) ≤ l by omega) (show 0 ≤ growB k (l + 1) by have := growB_pos k (l + 1); omega)
    rw [growB]; omega

theorem fold_bd {α : Type} {f : List Int → α → List Int} {B : Int} (i : Nat) : ∀ (l : List α) (s : List Int), (∀ s x, x ∈ l → s.getD i 0 ≤ (f s x).getD i 0 ∧ (f s x).getD i 0 ≤ s.getD i 0 + B) → s.getD i 0 ≤ (l.foldl f s).getD i 0 ∧ (l.foldl f s).getD i 0 ≤ s.getD i 0 + l.length * B
  | [], s, _ => by simp
  | x :: l, s, h => by
    have h1 := h s x (by simp)
    have h2 := fold_bd i l (f s x) (fun s y hy => h s y (by simp [hy]))
    rw [List.foldl_cons, List.length_cons, show ((l.length + 1 : Nat) : Int) * B = l.length * B + B by rw [Int.natCast_add, Int.add_mul]; simp]
    omega

theorem liveQ_bd {n : Int} (i : Nat) : ∀ (k : Nat) (c cnt : List Int), cnt.getD i 0 ≤ (liveQ n k c cnt).getD i 0 ∧ (liveQ n k c cnt).getD i 0 ≤ cnt.getD i 0 + growB k c.length
  | 0, c, cnt => by
    rw [liveQ, growB]
    split
    · omega
    · exact bump_le i
  | k + 1, c, cnt => by
    have hp := growB_pos (k + 1) c.length
    rw [liveQ, growB] at *
    split
    · omega
    · have h1 := bump_le (l := cnt) (j := c.length - 1) i
      have h2 := fold_bd (f := fun cnt x => liveQ n k (c ++ [lastD c + x]) cnt) (B := growB k (c.length + 1)) i c (bump cnt (c.length - 1 : Nat)) (fun s x _ => by have := liveQ_bd (n := n) i k (c ++ [lastD c + x]) s; rwa [List.length_append, List.length_singleton] at this)
      omega

theorem liveQ_cnt {n : Int} {m : Nat} : ∀ (k : Nat) (c cnt : List Int), goodC c → c.length - 1 + k = m → m < cnt.length → (liveQ n k c cnt).getD m 0 = cnt.getD m 0 + (allS n k c).length
  | 0, c, cnt, hg, hm, hl => by
    rw [liveQ, allS]
    by_cases h : lastD c = n
    · rw [if_neg (by omega), if_pos h, bump_get (by omega), if_pos (by omega)]; simp
    · rw [if_pos (by omega), if_neg h]; simp
  | k + 1, c, cnt, hg, hm, hl => by
    rw [liveQ]
    have hne : 1 ≤ c.length := by have := hg.1; cases c with | nil => exact absurd rfl this | cons _ _ => simp
    split
    · rename_i h
      have : allS n (k + 1) c = [] := by
        rcases h with h | h
        · exact allS_gt _ _ hg h
        · exact allS_lt _ _ hg h
      rw [this]; simp
    · have hf : ∀ (l s : List Int), (∀ x ∈ l, x ∈ c) → m < s.length → (l.foldl (fun cnt x => liveQ n k (c ++ [lastD c + x]) cnt) s).getD m 0 = s.getD m 0 + (l.flatMap fun x => allS n k (c ++ [lastD c + x])).length := by
        intro l
        induction l with
        | nil => intro s _ _; simp
        | cons x l ih =>
          intro s hs hsl
          rw [List.foldl_cons, ih _ (fun y hy => hs y (by simp [hy])) (by rw [liveQ_len]; exact hsl), liveQ_cnt k _ s (goodC_snoc hg (hs x (by simp))) (by simp; omega) hsl, List.flatMap_cons, List.length_append]
          omega
      rw [hf c _ (fun x h => h) (by rw [bump_len]; exact hl), bump_get (by omega), if_neg (by omega)]
      rfl

/-! ### Star chains: which they are, in which order, how long -/
def chainB : List Int → List Int → Bool
  | _, [] => true
  | pre, x :: l => pre.contains (x - lastD pre) && chainB (pre ++ [x]) l

theorem lastD_app (c : List Int) (x : Int) (t : List Int) : lastD (c ++ x :: t) = lastD (c ++ [x] ++ t) := by simp

theorem allS_mem {n : Int} : ∀ (t : List Int) (c : List Int), chainB c t = true → lastD (c ++ t) = n → c ++ t ∈ allS n t.length c
  | [], c, _, h => by rw [List.append_nil] at h ⊢; rw [List.length_nil, allS, if_pos h]; simp
  | x :: t, c, hc, h => by
    simp only [chainB, Bool.and_eq_true, List.contains_eq_mem, decide_eq_true_eq] at hc
    rw [List.length_cons, allS, List.mem_flatMap]
    refine ⟨_, hc.1, ?_⟩
    rw [show lastD c + (x - lastD c) = x by omega, show c ++ x :: t = c ++ [x] ++ t by simp]
    exact allS_mem t _ hc.2 (by rw [← h, lastD_app])

theorem allS_out {n : Int} : ∀ (k : Nat) (c d : List Int), d ∈ allS n k c → ∃ t, d = c ++ t ∧ t.length = k ∧ chainB c t = true ∧ lastD d = n
  | 0, c, d, h => by
    rw [allS] at h
    split at h
    · rename_i e
      rw [List.mem_singleton.1 h]
      exact ⟨[], by simp, rfl, rfl, e⟩
    · simp at h
  | k + 1, c, d, h => by
    rw [allS, List.mem_flatMap] at h
    obtain ⟨x, hx, h⟩ := h
    obtain ⟨t, rfl, h1, h2, h3⟩ := allS_out k _ d h
    refine ⟨(lastD c + x) :: t, by simp, by simp [h1], ?_, h3⟩
    simp only [chainB, Bool.and_eq_true, List.contains_eq_mem, decide_eq_true_eq]
    exact ⟨by rw [show lastD c + x - lastD c = x by omega]; exact hx, h2⟩

/-! The chain of the binary digits, and the least length. -/
def binT : Nat → Int → List Int
  | 0, _ => []
  | f + 1, n => if n ≤ 1 then [] else if n % 2 = 0 then binT f (n / 2) ++ [n] else binT f (n / 2) ++ [n - 1, n]

def lenB (n : Int) : Nat := (binT 8 n).length

theorem binT_ok : ∀ n : Nat, n < 101 → n = 0 ∨ (chainB [1] (binT 8 n) = true ∧ lastD ([1] ++ binT 8 n) = n ∧ lenB n ≤ 12) := by decide +kernel

theorem star_bin {n : Int} (h0 : 1 ≤ n) (h1 : n ≤ 100) : allS n (lenB n) [1] ≠ [] ∧ lenB n ≤ 12 := by
  have h := binT_ok n.toNat (by omega)
  rw [show ((n.toNat : Nat) : Int) = n by omega] at h
  rcases h with h | ⟨h2, h3, h4⟩
  · omega
  · refine ⟨fun e => ?_, h4⟩
    have := allS_mem _ _ h2 h3
    rw [show (binT 8 n).length = lenB n from rfl, e] at this
    simp at this

/-- The least length at which there is one. -/
def leastK (n : Int) : Nat → Nat → Nat
  | 0, k => k
  | f + 1, k => if allS n k [1] = [] then leastK n f (k + 1) else k

theorem leastK_ok {n : Int} : ∀ (f k m : Nat), k ≤ m → m ≤ k + f → allS n m [1] ≠ [] → k ≤ leastK n f k ∧ leastK n f k ≤ m ∧ allS n (leastK n f k) [1] ≠ [] ∧ ∀ j, k ≤ j → j < leastK n f k → allS n j [1] = []
  | 0, k, m, h1, h2, h => by
    have : m = k := by omega
    subst this
    rw [leastK]
    exact ⟨by omega, by omega, h, fun j a b => by omega⟩
  | f + 1, k, m, h1, h2, h => by
    rw [leastK]
    by_cases he : allS n k [1] = []
    · rw [if_pos he]
      have hkm : k ≠ m := fun e => h (e ▸ he)
      obtain ⟨a1, a2, a3, a4⟩ := leastK_ok f (k + 1) m (by omega) (by omega) h
      refine ⟨by omega, a2, a3, fun j b1 b2 => ?_⟩
      by_cases hj : j = k
      · rw [hj]; exact he
      · exact a4 j (by omega) b2
    · rw [if_neg he]
      exact ⟨by omega, by
        refine Classical.byContradiction fun hc => ?_
        omega, he, fun j a b => by omega⟩

/-- The length of the shortest star chain. -/
def shK (n : Int) : Nat := leastK n 12 0

theorem shK_ok {n : Int} (h0 : 1 ≤ n) (h1 : n ≤ 100) : shK n ≤ lenB n ∧ shK n ≤ 12 ∧ allS n (shK n) [1] ≠ [] ∧ ∀ j, j < shK n → allS n j [1] = [] := by
  obtain ⟨a1, a2⟩ := star_bin h0 h1
  obtain ⟨b1, b2, b3, b4⟩ := leastK_ok (n := n) 12 0 (lenB n) (by omega) (by omega) a1
  exact ⟨b2, by have : leastK n 12 0 = shK n := rfl; omega, b3, fun j h => b4 j (by omega) h⟩

/-! ### No star chain is shorter than the lower bound -/
def noS (n : Int) : Nat → List Int → Bool
  | 0, c => !decide (lastD c = n)
  | k + 1, c => decide (n ≤ lastD c) || (decide (lastD c * 2 ^ (k + 1) < n) || c.all fun x => noS n k (c ++ [lastD c + x]))

theorem noS_ok {n : Int} : ∀ (k : Nat) (c : List Int), goodC c → noS n k c = true → allS n k c = []
  | 0, c, _, h => by rw [allS, if_neg (by simpa [noS] using h)]
  | k + 1, c, hg, h => by
    simp only [noS, Bool.or_eq_true, decide_eq_true_eq] at h
    rcases h with h | h | h
    · exact allS_ge k c hg h
    · exact allS_lt _ _ hg h
    · rw [allS, List.flatMap_eq_nil_iff]
      intro x hx
      exact noS_ok k _ (goodC_snoc hg hx) (List.all_eq_true.1 h x hx)

def onesN : Nat → Nat → Nat
  | 0, _ => 0
  | f + 1, n => n % 2 + onesN f (n / 2)

def lowN (n : Nat) : Nat := n.log2 + (if onesN 8 n ≤ 1 then 0 else (onesN 8 n - 1).log2 + 1)

theorem noS_low : ∀ n : Nat, n < 101 → n = 0 ∨ (List.range (lowN n)).all (fun j => noS n j [1]) = true := by decide +kernel

theorem low_sh {n : Int} (h0 : 1 ≤ n) (h1 : n ≤ 100) : lowN n.toNat ≤ shK n := by
  refine Classical.byContradiction fun hc => ?_
  rcases noS_low n.toNat (by omega) with h | h
  · omega
  · have := List.all_eq_true.1 h (shK n) (List.mem_range.2 (by omega))
    rw [show ((n.toNat : Nat) : Int) = n by omega] at this
    exact (shK_ok h0 h1).2.2.1 (noS_ok _ _ goodC_one this)

/-- The program's: ways to numbers, and levels of numbers. -/
def wayA (most m : Int) (way : List Int) (s : List Int × List (Int × List Int)) (x : Int) : List Int × List (Int × List Int) :=
  if m + x ≤ most ∧ (s.2.find? fun e => e.1 == m + x) = none then (s.1 ++ [m + x], s.2 ++ [(m + x, way ++ [m + x])]) else s

def wayOf (ws : List (Int × List Int)) (m : Int) : List Int := ((ws.find? fun e => e.1 == m).map (·.2)).getD []

def wayT (most : Int) (lv : List Int) (ws : List (Int × List Int)) : List Int × List (Int × List Int) := lv.foldl (fun s m => (wayOf s.2 m).foldl (wayA most m (wayOf s.2 m)) s) ([], ws)

/-- All ways up to 256, level by level. -/
def treeW : List (Int × List Int) := [(1, [1]), (2, [1, 2]), (3, [1, 2, 3]), (4, [1, 2, 4]), (5, [1, 2, 3, 5]), (6, [1, 2, 3, 6]), (8, [1, 2, 4, 8]), (7, [1, 2, 3, 5, 7]), (10, [1, 2, 3, 5, 10]), (9, [1, 2, 3, 6, 9]), (12, [1, 2, 3, 6, 12]), (16, [1, 2, 4, 8, 16]), (14, [1, 2, 3, 5, 7, 14]), (11, [1, 2, 3, 5, 10, 11]), (13, [1, 2, 3, 5, 10, 13]), (15, [1, 2, 3, 5, 10, 15]), (20, [1, 2, 3, 5, 10, 20]), (18, [1, 2, 3, 6, 9, 18]), (24, [1, 2, 3, 6, 12, 24]), (17, [1, 2, 4, 8, 16, 17]), (32, [1, 2, 4, 8, 16, 32]), (19, [1, 2, 3, 5, 7, 14, 19]), (21, [1, 2, 3, 5, 7, 14, 21]), (28, [1, 2, 3, 5, 7, 14, 28]), (22, [1, 2, 3, 5, 10, 11, 22]), (23, [1, 2, 3, 5, 10, 13, 23]), (26, [1, 2, 3, 5, 10, 13, 26]), (25, [1, 2, 3, 5, 10, 15, 25]), (30, [1, 2, 3, 5, 10, 15, 30]), (40, [1, 2, 3, 5, 10, 20, 40]), (27, [1, 2, 3, 6, 9, 18, 27]), (36, [1, 2, 3, 6, 9, 18, 36]), (48, [1, 2, 3, 6, 12, 24, 48]), (33, [1, 2, 4, 8, 16, 17, 33]), (34, [1, 2, 4, 8, 16, 17, 34]), (64, [1, 2, 4, 8, 16, 32, 64]), (38, [1, 2, 3, 5, 7, 14, 19, 38]), (35, [1, 2, 3, 5, 7, 14, 21, 35]), (42, [1, 2, 3, 5, 7, 14, 21, 42]), (29, [1, 2, 3, 5, 7, 14, 28, 29]), (31, [1, 2, 3, 5, 7, 14, 28, 31]), (56, [1, 2, 3, 5, 7, 14, 28, 56]), (44, [1, 2, 3, 5, 10, 11, 22, 44]), (46, [1, 2, 3, 5, 10, 13, 23, 46]), (39, [1, 2, 3, 5, 10, 13, 26, 39]), (52, [1, 2, 3, 5, 10, 13, 26, 52]), (50, [1, 2, 3, 5, 10, 15, 25, 50]), (45, [1, 2, 3, 5, 10, 15, 30, 45]), (60, [1, 2, 3, 5, 10, 15, 30, 60]), (41, [1, 2, 3, 5, 10, 20, 40, 41]), (43, [1, 2, 3, 5, 10, 20, 40, 43]), (80, [1, 2, 3, 5, 10, 20, 40, 80]), (54, [1, 2, 3, 6, 9, 18, 27, 54]), (37, [1, 2, 3, 6, 9, 18, 36, 37]), (72, [1, 2, 3, 6, 9, 18, 36, 72]), (49, [1, 2, 3, 6, 12, 24, 48, 49]), (51, [1, 2, 3, 6, 12, 24, 48, 51]), (96, [1, 2, 3, 6, 12, 24, 48, 96]), (66, [1, 2, 4, 8, 16, 17, 33, 66]), (68, [1, 2, 4, 8, 16, 17, 34, 68]), (65, [1, 2, 4, 8, 16, 32, 64, 65]), (128, [1, 2, 4, 8, 16, 32, 64, 128]), (57, [1, 2, 3, 5, 7, 14, 19, 38, 57]), (76, [1, 2, 3, 5, 7, 14, 19, 38, 76]), (70, [1, 2, 3, 5, 7, 14, 21, 35, 70]), (47, [1, 2, 3, 5, 7, 14, 21, 42, 47]), (63, [1, 2, 3, 5, 7, 14, 21, 42, 63]), (84, [1, 2, 3, 5, 7, 14, 21, 42, 84]), (58, [1, 2, 3, 5, 7, 14, 28, 29, 58]), (59, [1, 2, 3, 5, 7, 14, 28, 31, 59]), (62, [1, 2, 3, 5, 7, 14, 28, 31, 62]), (61, [1, 2, 3, 5, 7, 14, 28, 56, 61]), (112, [1, 2, 3, 5, 7, 14, 28, 56, 112]), (55, [1, 2, 3, 5, 10, 11, 22, 44, 55]), (88, [1, 2, 3, 5, 10, 11, 22, 44, 88]), (69, [1, 2, 3, 5, 10, 13, 23, 46, 69]), (92, [1, 2, 3, 5, 10, 13, 23, 46, 92]), (78, [1, 2, 3, 5, 10, 13, 26, 39, 78]), (53, [1, 2, 3, 5, 10, 13, 26, 52, 53]), (104, [1, 2, 3, 5, 10, 13, 26, 52, 104]), (75, [1, 2, 3, 5, 10, 15, 25, 50, 75]), (100, [1, 2, 3, 5, 10, 15, 25, 50, 100]), (90, [1, 2, 3, 5, 10, 15, 30, 45, 90]), (120, [1, 2, 3, 5, 10, 15, 30, 60, 120]), (81, [1, 2, 3, 5, 10, 20, 40, 41, 81]), (82, [1, 2, 3, 5, 10, 20, 40, 41, 82]), (83, [1, 2, 3, 5, 10, 20, 40, 43, 83]), (86, [1, 2, 3, 5, 10, 20, 40, 43, 86]), (85, [1, 2, 3, 5, 10, 20, 40, 80, 85]), (160, [1, 2, 3, 5, 10, 20, 40, 80, 160]), (108, [1, 2, 3, 6, 9, 18, 27, 54, 108]), (73, [1, 2, 3, 6, 9, 18, 36, 37, 73]), (74, [1, 2, 3, 6, 9, 18, 36, 37, 74]), (144, [1, 2, 3, 6, 9, 18, 36, 72, 144]), (97, [1, 2, 3, 6, 12, 24, 48, 49, 97]), (98, [1, 2, 3, 6, 12, 24, 48, 49, 98]), (99, [1, 2, 3, 6, 12, 24, 48, 51, 99]), (102, [1, 2, 3, 6, 12, 24, 48, 51, 102]), (192, [1, 2, 3, 6, 12, 24, 48, 96, 192]), (67, [1, 2, 4, 8, 16, 17, 33, 66, 67]), (132, [1, 2, 4, 8, 16, 17, 33, 66, 132]), (136, [1, 2, 4, 8, 16, 17, 34, 68, 136]), (129, [1, 2, 4, 8, 16, 32, 64, 65, 129]), (130, [1, 2, 4, 8, 16, 32, 64, 65, 130]), (256, [1, 2, 4, 8, 16, 32, 64, 128, 256]), (71, [1, 2, 3, 5, 7, 14, 19, 38, 57, 71]), (95, [1, 2, 3, 5, 7, 14, 19, 38, 57, 95]), (114, [1, 2, 3, 5, 7, 14, 19, 38, 57, 114]), (77, [1, 2, 3, 5, 7, 14, 19, 38, 76, 77]), (79, [1, 2, 3, 5, 7, 14, 19, 38, 76, 79]), (152, [1, 2, 3, 5, 7, 14, 19, 38, 76, 152]), (91, [1, 2, 3, 5, 7, 14, 21, 35, 70, 91]), (105, [1, 2, 3, 5, 7, 14, 21, 35, 70, 105]), (140, [1, 2, 3, 5, 7, 14, 21, 35, 70, 140]), (89, [1, 2, 3, 5, 7, 14, 21, 42, 47, 89]), (94, [1, 2, 3, 5, 7, 14, 21, 42, 47, 94]), (126, [1, 2, 3, 5, 7, 14, 21, 42, 63, 126]), (87, [1, 2, 3, 5, 7, 14, 21, 42, 84, 87]), (168, [1, 2, 3, 5, 7, 14, 21, 42, 84, 168]), (116, [1, 2, 3, 5, 7, 14, 28, 29, 58, 116]), (118, [1, 2, 3, 5, 7, 14, 28, 31, 59, 118]), (93, [1, 2, 3, 5, 7, 14, 28, 31, 62, 93]), (124, [1, 2, 3, 5, 7, 14, 28, 31, 62, 124]), (117, [1, 2, 3, 5, 7, 14, 28, 56, 61, 117]), (122, [1, 2, 3, 5, 7, 14, 28, 56, 61, 122]), (113, [1, 2, 3, 5, 7, 14, 28, 56, 112, 113]), (115, [1, 2, 3, 5, 7, 14, 28, 56, 112, 115]), (119, [1, 2, 3, 5, 7, 14, 28, 56, 112, 119]), (224, [1, 2, 3, 5, 7, 14, 28, 56, 112, 224]), (110, [1, 2, 3, 5, 10, 11, 22, 44, 55, 110]), (176, [1, 2, 3, 5, 10, 11, 22, 44, 88, 176]), (138, [1, 2, 3, 5, 10, 13, 23, 46, 69, 138]), (184, [1, 2, 3, 5, 10, 13, 23, 46, 92, 184]), (156, [1, 2, 3, 5, 10, 13, 26, 39, 78, 156]), (106, [1, 2, 3, 5, 10, 13, 26, 52, 53, 106]), (107, [1, 2, 3, 5, 10, 13, 26, 52, 104, 107]), (109, [1, 2, 3, 5, 10, 13, 26, 52, 104, 109]), (208, [1, 2, 3, 5, 10, 13, 26, 52, 104, 208]), (125, [1, 2, 3, 5, 10, 15, 25, 50, 75, 125]), (150, [1, 2, 3, 5, 10, 15, 25, 50, 75, 150]), (101, [1, 2, 3, 5, 10, 15, 25, 50, 100, 101]), (103, [1, 2, 3, 5, 10, 15, 25, 50, 100, 103]), (200, [1, 2, 3, 5, 10, 15, 25, 50, 100, 200]), (135, [1, 2, 3, 5, 10, 15, 30, 45, 90, 135]), (180, [1, 2, 3, 5, 10, 15, 30, 45, 90, 180]), (121, [1, 2, 3, 5, 10, 15, 30, 60, 120, 121]), (123, [1, 2, 3, 5, 10, 15, 30, 60, 120, 123]), (240, [1, 2, 3, 5, 10, 15, 30, 60, 120, 240]), (162, [1, 2, 3, 5, 10, 20, 40, 41, 81, 162]), (164, [1, 2, 3, 5, 10, 20, 40, 41, 82, 164]), (166, [1, 2, 3, 5, 10, 20, 40, 43, 83, 166]), (172, [1, 2, 3, 5, 10, 20, 40, 43, 86, 172]), (165, [1, 2, 3, 5, 10, 20, 40, 80, 85, 165]), (170, [1, 2, 3, 5, 10, 20, 40, 80, 85, 170]), (161, [1, 2, 3, 5, 10, 20, 40, 80, 160, 161]), (163, [1, 2, 3, 5, 10, 20, 40, 80, 160, 163]), (111, [1, 2, 3, 6, 9, 18, 27, 54, 108, 111]), (216, [1, 2, 3, 6, 9, 18, 27, 54, 108, 216]), (146, [1, 2, 3, 6, 9, 18, 36, 37, 73, 146]), (148, [1, 2, 3, 6, 9, 18, 36, 37, 74, 148]), (145, [1, 2, 3, 6, 9, 18, 36, 72, 144, 145]), (147, [1, 2, 3, 6, 9, 18, 36, 72, 144, 147]), (153, [1, 2, 3, 6, 9, 18, 36, 72, 144, 153]), (194, [1, 2, 3, 6, 12, 24, 48, 49, 97, 194]), (196, [1, 2, 3, 6, 12, 24, 48, 49, 98, 196]), (198, [1, 2, 3, 6, 12, 24, 48, 51, 99, 198]), (204, [1, 2, 3, 6, 12, 24, 48, 51, 102, 204]), (193, [1, 2, 3, 6, 12, 24, 48, 96, 192, 193]), (195, [1, 2, 3, 6, 12, 24, 48, 96, 192, 195]), (133, [1, 2, 4, 8, 16, 17, 33, 66, 67, 133]), (134, [1, 2, 4, 8, 16, 17, 33, 66, 67, 134]), (149, [1, 2, 4, 8, 16, 17, 33, 66, 132, 149]), (137, [1, 2, 4, 8, 16, 17, 34, 68, 136, 137]), (131, [1, 2, 4, 8, 16, 32, 64, 65, 129, 131]), (142, [1, 2, 3, 5, 7, 14, 19, 38, 57, 71, 142]), (190, [1, 2, 3, 5, 7, 14, 19, 38, 57, 95, 190]), (171, [1, 2, 3, 5, 7, 14, 19, 38, 57, 114, 171]), (228, [1, 2, 3, 5, 7, 14, 19, 38, 57, 114, 228]), (154, [1, 2, 3, 5, 7, 14, 19, 38, 76, 77, 154]), (155, [1, 2, 3, 5, 7, 14, 19, 38, 76, 79, 155]), (158, [1, 2, 3, 5, 7, 14, 19, 38, 76, 79, 158]), (157, [1, 2, 3, 5, 7, 14, 19, 38, 76, 152, 157]), (159, [1, 2, 3, 5, 7, 14, 19, 38, 76, 152, 159]), (182, [1, 2, 3, 5, 7, 14, 21, 35, 70, 91, 182]), (175, [1, 2, 3, 5, 7, 14, 21, 35, 70, 105, 175]), (210, [1, 2, 3, 5, 7, 14, 21, 35, 70, 105, 210]), (141, [1, 2, 3, 5, 7, 14, 21, 35, 70, 140, 141]), (143, [1, 2, 3, 5, 7, 14, 21, 35, 70, 140, 143]), (178, [1, 2, 3, 5, 7, 14, 21, 42, 47, 89, 178]), (188, [1, 2, 3, 5, 7, 14, 21, 42, 47, 94, 188]), (127, [1, 2, 3, 5, 7, 14, 21, 42, 63, 126, 127]), (189, [1, 2, 3, 5, 7, 14, 21, 42, 63, 126, 189]), (252, [1, 2, 3, 5, 7, 14, 21, 42, 63, 126, 252]), (174, [1, 2, 3, 5, 7, 14, 21, 42, 84, 87, 174]), (169, [1, 2, 3, 5, 7, 14, 21, 42, 84, 168, 169]), (173, [1, 2, 3, 5, 7, 14, 21, 42, 84, 168, 173]), (232, [1, 2, 3, 5, 7, 14, 28, 29, 58, 116, 232]), (177, [1, 2, 3, 5, 7, 14, 28, 31, 59, 118, 177]), (236, [1, 2, 3, 5, 7, 14, 28, 31, 59, 118, 236]), (186, [1, 2, 3, 5, 7, 14, 28, 31, 62, 93, 186]), (248, [1, 2, 3, 5, 7, 14, 28, 31, 62, 124, 248]), (234, [1, 2, 3, 5, 7, 14, 28, 56, 61, 117, 234]), (183, [1, 2, 3, 5, 7, 14, 28, 56, 61, 122, 183]), (244, [1, 2, 3, 5, 7, 14, 28, 56, 61, 122, 244]), (225, [1, 2, 3, 5, 7, 14, 28, 56, 112, 113, 225]), (226, [1, 2, 3, 5, 7, 14, 28, 56, 112, 113, 226]), (227, [1, 2, 3, 5, 7, 14, 28, 56, 112, 115, 227]), (230, [1, 2, 3, 5, 7, 14, 28, 56, 112, 115, 230]), (231, [1, 2, 3, 5, 7, 14, 28, 56, 112, 119, 231]), (238, [1, 2, 3, 5, 7, 14, 28, 56, 112, 119, 238]), (229, [1, 2, 3, 5, 7, 14, 28, 56, 112, 224, 229]), (220, [1, 2, 3, 5, 10, 11, 22, 44, 55, 110, 220]), (179, [1, 2, 3, 5, 10, 11, 22, 44, 88, 176, 179]), (181, [1, 2, 3, 5, 10, 11, 22, 44, 88, 176, 181]), (187, [1, 2, 3, 5, 10, 11, 22, 44, 88, 176, 187]), (139, [1, 2, 3, 5, 10, 13, 23, 46, 69, 138, 139]), (151, [1, 2, 3, 5, 10, 13, 23, 46, 69, 138, 151]), (207, [1, 2, 3, 5, 10, 13, 23, 46, 69, 138, 207]), (185, [1, 2, 3, 5, 10, 13, 23, 46, 92, 184, 185]), (197, [1, 2, 3, 5, 10, 13, 23, 46, 92, 184, 197]), (212, [1, 2, 3, 5, 10, 13, 26, 52, 53, 106, 212]), (211, [1, 2, 3, 5, 10, 13, 26, 52, 104, 107, 211]), (214, [1, 2, 3, 5, 10, 13, 26, 52, 104, 107, 214]), (213, [1, 2, 3, 5, 10, 13, 26, 52, 104, 109, 213]), (218, [1, 2, 3, 5, 10, 13, 26, 52, 104, 109, 218]), (209, [1, 2, 3, 5, 10, 13, 26, 52, 104, 208, 209]), (221, [1, 2, 3, 5, 10, 13, 26, 52, 104, 208, 221]), (250, [1, 2, 3, 5, 10, 15, 25, 50, 75, 125, 250]), (201, [1, 2, 3, 5, 10, 15, 25, 50, 100, 101, 201]), (202, [1, 2, 3, 5, 10, 15, 25, 50, 100, 101, 202]), (203, [1, 2, 3, 5, 10, 15, 25, 50, 100, 103, 203]), (206, [1, 2, 3, 5, 10, 15, 25, 50, 100, 103, 206]), (205, [1, 2, 3, 5, 10, 15, 25, 50, 100, 200, 205]), (215, [1, 2, 3, 5, 10, 15, 25, 50, 100, 200, 215]), (241, [1, 2, 3, 5, 10, 15, 30, 60, 120, 121, 241]), (242, [1, 2, 3, 5, 10, 15, 30, 60, 120, 121, 242]), (243, [1, 2, 3, 5, 10, 15, 30, 60, 120, 123, 243]), (246, [1, 2, 3, 5, 10, 15, 30, 60, 120, 123, 246]), (245, [1, 2, 3, 5, 10, 15, 30, 60, 120, 240, 245]), (255, [1, 2, 3, 5, 10, 15, 30, 60, 120, 240, 255]), (167, [1, 2, 3, 5, 10, 20, 40, 41, 81, 162, 167]), (249, [1, 2, 3, 5, 10, 20, 40, 43, 83, 166, 249]), (219, [1, 2, 3, 6, 9, 18, 27, 54, 108, 111, 219]), (222, [1, 2, 3, 6, 9, 18, 27, 54, 108, 111, 222]), (217, [1, 2, 3, 6, 9, 18, 27, 54, 108, 216, 217]), (199, [1, 2, 3, 6, 12, 24, 48, 49, 98, 196, 199]), (191, [1, 2, 3, 5, 7, 14, 19, 38, 57, 95, 190, 191]), (247, [1, 2, 3, 5, 7, 14, 19, 38, 57, 95, 190, 247]), (233, [1, 2, 3, 5, 7, 14, 19, 38, 57, 114, 228, 233]), (235, [1, 2, 3, 5, 7, 14, 19, 38, 57, 114, 228, 235]), (237, [1, 2, 3, 5, 7, 14, 19, 38, 76, 79, 158, 237]), (253, [1, 2, 3, 5, 7, 14, 21, 42, 63, 126, 127, 253]), (254, [1, 2, 3, 5, 7, 14, 21, 42, 63, 126, 127, 254]), (239, [1, 2, 3, 5, 7, 14, 28, 29, 58, 116, 232, 239]), (251, [1, 2, 3, 5, 7, 14, 28, 31, 62, 124, 248, 251]), (223, [1, 2, 3, 5, 10, 11, 22, 44, 55, 110, 220, 223])]

def treeN (k : Nat) : Nat := ([1, 2, 4, 7, 12, 21, 36, 62, 105, 174, 246, 256] : List Nat).getD k 256

def treeL (k : Nat) : List (Int × List Int) := (treeW.take (treeN k)).drop (if k = 0 then 0 else treeN (k - 1))

theorem treeP_step : ∀ k : Nat, k < 12 → wayT 256 ((treeL k).map (·.1)) (treeW.take (treeN k)) = ((treeL (k + 1)).map (·.1), treeW.take (treeN (k + 1))) := by decide +kernel

theorem tree_end : (treeL 12).map (·.1) = [] ∧ ∀ k : Nat, k < 12 → (treeL k).map (·.1) ≠ [] := by decide +kernel

/-! ### The reference's search -/
theorem lastD_at {c : List Int} (hg : goodC c) : c[((c.length : Int) - 1).toNat]? = some (lastD c) := by
  have hne := hg.1
  have hl : 0 < c.length := List.length_pos_iff.2 hne
  rw [show ((c.length : Int) - 1).toNat = c.length - 1 by omega, ← List.getLast?_eq_getElem?, lastD]
  cases c with
  | nil => exact absurd rfl hne
  | cons x l => simp [List.getLastD, List.getLast?]

theorem shl_small {m : Int} {k : Nat} (hk : k ≤ 12) (h0 : 0 ≤ m) (h1 : m ≤ 200) : IntKind.i64.wrap (m * 2 ^ min (((k + 1 : Nat) : Int) - 1).toNat IntKind.i64.bits) = m * 2 ^ k := by
  have e : min (((k + 1 : Nat) : Int) - 1).toNat IntKind.i64.bits = k := by
    have : IntKind.i64.bits = 64 := rfl
    omega
  rw [e]
  obtain ⟨hp, hp0⟩ := (show ∀ j : Nat, j < 13 → (2 : Int) ^ j ≤ 4096 ∧ (0 : Int) < 2 ^ j by decide) k (by omega)
  have h2 : m * 2 ^ k ≤ 200 * 4096 := Int.mul_le_mul h1 hp (by omega) (by omega)
  have h3 : 0 ≤ m * 2 ^ k := Int.mul_nonneg h0 (by omega)
  exact IntWalk.i64_in _ ⟨by omega, by omega⟩

theorem rowsI_app : ∀ {us : List AV} {ll : List (List Int)} (us2 : List AV) (l2 : List (List Int)), us.length = ll.length → rowsI (us ++ us2) (ll ++ l2) = rowsI us ll ++ rowsI us2 l2
  | [], [], us2, l2, _ => rfl
  | u :: us, l :: ll, us2, l2, h => by
    simp only [List.cons_append, rowsI]
    rw [rowsI_app us2 l2 (by simpa using h)]
  | [], _ :: _, _, _, h => by simp at h
  | _ :: _, [], _, _, h => by simp at h

theorem perm_ss (x o g1 g2 : It) (R S : List It) : (x :: ((R ++ []) ++ (g1 :: g2 :: o :: S))).Perm (o :: x :: (S ++ (R ++ [g1, g2]))) := by
  rw [List.append_nil]
  have h1 : (R ++ (g1 :: g2 :: o :: S)).Perm (o :: (R ++ [g1, g2] ++ S)) := by
    have := List.perm_middle (l₁ := R ++ [g1, g2]) (a := o) (l₂ := S)
    simpa using this
  have h2 : (R ++ [g1, g2] ++ S).Perm (S ++ (R ++ [g1, g2])) := List.perm_append_comm
  exact ((h1.trans (h2.cons o)).cons x).trans (.swap _ _ _)

theorem shSearch_ac (n : Int) (hn : 1 ≤ n ∧ n ≤ 100) : ∀ (k : Nat) (c : List Int) (most : Int) (v : AV) (h : AH), c.length + k ≤ 13 → goodC c → lastD c ≤ 100 → 1 ≤ most ∧ most ≤ 201 → Rd h v c →
    AC Try.prog 58 [v, .i .i64 n, .i .i64 k, .i .i64 most] h (fun r h' => ∃ M, (∃ us, us.length = ((allS n k c).take most.toNat).length ∧ lenA r = some us.length ∧ r.sc = true ∧ M = ssI r us ((allS n k c).take most.toNat)) ∧ Loq h h' M)
  | 0, c, most, v, h, hk, hg, hl, hm, hR => by
    have hlen := hR.len
    have hcl : 0 < c.length := List.length_pos_iff.2 hg.1
    refine e58 _ _ _ _ fun wf => ?_
    unfold c58
    refine LI_start wf ?_
    refine W ?_
    refine LS_ix (y := lastD c) (fun h' HL => hR.le HL.le) enI1 (lastD_at hg) (by omega) rfl rfl fun q1 o1 hrow1 => ?_
    try (dsimp only [st, setL, AV.cells, List.set_cons_zero, List.set_cons_succ, List.drop_zero, List.drop_succ_cons, List.take_zero, List.take_succ_cons, Nat.zero_add, Nat.add_zero, Nat.reduceAdd, List.cons_append, List.nil_append, List.eraseIdx_cons_zero, List.eraseIdx_cons_succ])
    refine W ?_
    first | (refine LS_gyH rfl (by simp) ?_; intro hg) | (refine LI_cond_tH rfl (by simp) ?_; intro hg)
    refine W ?_
    (first | refine LS_gt rfl ?_ ?_ | refine LS_gf rfl ?_ ?_ | refine LI_cond rfl ?_ ?_) <;> intro hc <;> have hc' := hc <;> try simp only [decide_eq_true_eq, decide_eq_false_iff_not, Bool.not_eq_true', Bool.not_eq_false', Bool.not_eq_true, Bool.not_eq_false, beq_iff_eq, bne_iff_ne, beq_eq_false_iff_ne, bne_eq_false_iff_eq, Int.not_lt, Int.not_le, ge_iff_le, gt_iff_lt, not_and, ne_eq, Decidable.not_not] at hc'
    all_goals (try (dsimp only [st, setL, AV.cells, List.set_cons_zero, List.set_cons_succ, List.drop_zero, List.drop_succ_cons, List.take_zero, List.take_succ_cons, Nat.zero_add, Nat.add_zero, Nat.reduceAdd, List.cons_append, List.nil_append, List.eraseIdx_cons_zero, List.eraseIdx_cons_succ]))
    all_goals (refine W ?_)
    · have e : lastD c = n := by first | exact hc' | simpa using hc
      refine LS_co (fun h' HL wf => l1Own_ac c v h' (hR.le HL.le) (by omega)) enI1 rfl rfl fun w1 lw1 sw1 => ?_
      try (dsimp only [st, setL, AV.cells, List.set_cons_zero, List.set_cons_succ, List.drop_zero, List.drop_succ_cons, List.take_zero, List.take_succ_cons, Nat.zero_add, Nat.add_zero, Nat.reduceAdd, List.cons_append, List.nil_append, List.eraseIdx_cons_zero, List.eraseIdx_cons_succ])
      refine W ?_
      refine LS_ltV rfl rfl sw1 rfl fun lit hlit slit => ?_
      try (dsimp only [st, setL, AV.cells, List.set_cons_zero, List.set_cons_succ, List.drop_zero, List.drop_succ_cons, List.take_zero, List.take_succ_cons, Nat.zero_add, Nat.add_zero, Nat.reduceAdd, List.cons_append, List.nil_append, List.eraseIdx_cons_zero, List.eraseIdx_cons_succ])
      refine W ?_
      refine RET fun h' HL => ?_
      try dsimp only [oneA]
      have et : (allS n 0 c).take most.toNat = [c] := by rw [allS, if_pos e, List.take_of_length_le (by simp; omega)]
      exact ⟨_, ⟨[w1], by rw [et]; rfl, hlit, slit, by rw [et]; rfl⟩, HL⟩
    · have e : lastD c ≠ n := by first | exact hc' | simpa using hc
      refine RET fun h' HL => ?_
      try dsimp only [oneA]
      have et : (allS n 0 c).take most.toNat = [] := by rw [allS, if_neg e, List.take_nil]
      exact ⟨_, ⟨[], by rw [et]; rfl, rfl, rfl, by rw [et]; rfl⟩, loq_ns (HL.sub (List.nil_sublist _)) 1⟩
  | k + 1, c, most, v, h, hk, hgc, hl, hm, hR => by
    have hlen := hR.len
    have hcl : 0 < c.length := List.length_pos_iff.2 hgc.1
    refine e58 _ _ _ _ fun wf => ?_
    unfold c58
    refine LI_start wf ?_
    refine W ?_
    refine LS_ix (y := lastD c) (fun h' HL => hR.le HL.le) enI1 (lastD_at hgc) (by omega) rfl rfl fun q1 o1 hrow1 => ?_
    try (dsimp only [st, setL, AV.cells, List.set_cons_zero, List.set_cons_succ, List.drop_zero, List.drop_succ_cons, List.take_zero, List.take_succ_cons, Nat.zero_add, Nat.add_zero, Nat.reduceAdd, List.cons_append, List.nil_append, List.eraseIdx_cons_zero, List.eraseIdx_cons_succ])
    refine W ?_
    first | (refine LS_gtnH rfl (by simp; omega) ?_; intro hg; try (dsimp only [st, setL, AV.cells, List.set_cons_zero, List.set_cons_succ, List.drop_zero, List.drop_succ_cons, List.take_zero, List.take_succ_cons, Nat.zero_add, Nat.add_zero, Nat.reduceAdd, List.cons_append, List.nil_append, List.eraseIdx_cons_zero, List.eraseIdx_cons_succ])) | (refine LS_gfnH rfl (by simp; omega) ?_; intro hg; try (dsimp only [st, setL, AV.cells, List.set_cons_zero, List.set_cons_succ, List.drop_zero, List.drop_succ_cons, List.take_zero, List.take_succ_cons, Nat.zero_add, Nat.add_zero, Nat.reduceAdd, List.cons_append, List.nil_append, List.eraseIdx_cons_zero, List.eraseIdx_cons_succ])) | (refine LI_cond_fH rfl (by simp; omega) ?_; intro hg)
    refine W ?_
    obtain ⟨A, hA⟩ : ∃ A : Nat → List (List Int), A = fun m => ((c.take m).flatMap fun x => allS n k (c ++ [lastD c + x])).take most.toNat := ⟨_, rfl⟩
    have hA0 : A 0 = [] := by rw [hA]; simp
    have hAs : ∀ (m : Nat) (x : Int), c[m]? = some x → A (m + 1) = A m ++ (allS n k (c ++ [lastD c + x])).take (most.toNat - (A m).length) := by
      intro m x hx
      rw [hA]
      show ((c.take (m + 1)).flatMap _).take _ = _
      rw [take_snoc hx, List.flatMap_append, take_step]
      simp
    refine LIL_nl (k := 1) ?_
    refine LIL_ind (fun j a L => ∃ (out : AV) (us : List AV) (i : Int), (∃ r : Nat → AV, a = [v, .i .i64 n, .i .i64 ((k + 1 : Nat) : Int), .i .i64 most, r 4, r 5, r 6, r 7, r 8, .i .i64 (lastD c), out, r 11, r 12, r 13, r 14, r 15, r 16, r 17, r 18, r 19, r 20, r 21, r 22, r 23, r 24, r 25, r 26, r 27, v, .i .i64 c.length, .i .i64 i, r 31, r 32, r 33, r 34, r 35, r 36, r 37, r 38, r 39, r 40, r 41, r 42, r 43, r 44, r 45, r 46, r 47, r 48, r 49, r 50, r 51, r 52, r 53, r 54, r 55, r 56, r 57, r 58, r 59, r 60, r 61, r 62, r 63, r 64, r 65, r 66, r 67, r 68, r 69, r 70]) ∧ L = .sl out 1 (us.flatMap enV) :: rowsI us (A i.toNat) ∧ us.length = (A i.toNat).length ∧ 0 ≤ i ∧ i + j = c.length ∧ lenA out = some us.length ∧ out.sc = true)
      c.length ⟨.ns, [], 0, exJ rfl, by rw [show (0 : Int).toNat = 0 from rfl, hA0]; rfl, by rw [show (0 : Int).toNat = 0 from rfl, hA0]; rfl, by omega, by omega, rfl, rfl⟩ ?_
    rintro j a _ ⟨out, us, i, ⟨r, rfl⟩, rfl, hul, h0, hj, lo, so⟩ IH
    refine W ?_
    (first | refine LS_gt rfl ?_ ?_ | refine LS_gf rfl ?_ ?_ | refine LI_cond rfl ?_ ?_) <;> intro hc <;> have hc' := hc <;> try simp only [decide_eq_true_eq, decide_eq_false_iff_not, Bool.not_eq_true', Bool.not_eq_false', Bool.not_eq_true, Bool.not_eq_false, beq_iff_eq, bne_iff_ne, beq_eq_false_iff_ne, bne_eq_false_iff_eq, Int.not_lt, Int.not_le, ge_iff_le, gt_iff_lt, not_and, ne_eq, Decidable.not_not] at hc'
    all_goals (try (dsimp only [st, setL, AV.cells, List.set_cons_zero, List.set_cons_succ, List.drop_zero, List.drop_succ_cons, List.take_zero, List.take_succ_cons, Nat.zero_add, Nat.add_zero, Nat.reduceAdd, List.cons_append, List.nil_append, List.eraseIdx_cons_zero, List.eraseIdx_cons_succ]))
    all_goals (refine W ?_)
    · obtain ⟨x, hx, hxm, _⟩ := drop_at (l := c) h0 hc'
      have hxb := hgc.2 x hxm
      refine LS_ix (fun h' HL => hR.le HL.le) enI1 hx h0 rfl rfl fun q2 o2 hrow2 => ?_
      try (dsimp only [st, setL, AV.cells, List.set_cons_zero, List.set_cons_succ, List.drop_zero, List.drop_succ_cons, List.take_zero, List.take_succ_cons, Nat.zero_add, Nat.add_zero, Nat.reduceAdd, List.cons_append, List.nil_append, List.eraseIdx_cons_zero, List.eraseIdx_cons_succ])
      refine W ?_
      (first | refine LS_gt rfl ?_ ?_ | refine LS_gf rfl ?_ ?_ | refine LI_cond rfl ?_ ?_) <;> intro hc <;> have hc' := hc <;> try simp only [decide_eq_true_eq, decide_eq_false_iff_not, Bool.not_eq_true', Bool.not_eq_false', Bool.not_eq_true, Bool.not_eq_false, beq_iff_eq, bne_iff_ne, beq_eq_false_iff_ne, bne_eq_false_iff_eq, Int.not_lt, Int.not_le, ge_iff_le, gt_iff_lt, not_and, ne_eq, Decidable.not_not] at hc'
      all_goals (try (dsimp only [st, setL, AV.cells, List.set_cons_zero, List.set_cons_succ, List.drop_zero, List.drop_succ_cons, List.take_zero, List.take_succ_cons, Nat.zero_add, Nat.add_zero, Nat.reduceAdd, List.cons_append, List.nil_append, List.eraseIdx_cons_zero, List.eraseIdx_cons_succ]))
      all_goals (refine W ?_)
      · refine LS_v (OpV_shl rfl rfl (by omega)) ?_
        try (dsimp only [st, setL, AV.cells, List.set_cons_zero, List.set_cons_succ, List.drop_zero, List.drop_succ_cons, List.take_zero, List.take_succ_cons, Nat.zero_add, Nat.add_zero, Nat.reduceAdd, List.cons_append, List.nil_append, List.eraseIdx_cons_zero, List.eraseIdx_cons_succ])
        refine W ?_
        (first | refine LS_gt rfl ?_ ?_ | refine LS_gf rfl ?_ ?_ | refine LI_cond rfl ?_ ?_) <;> intro hc <;> have hc' := hc <;> try simp only [decide_eq_true_eq, decide_eq_false_iff_not, Bool.not_eq_true', Bool.not_eq_false', Bool.not_eq_true, Bool.not_eq_false, beq_iff_eq, bne_iff_ne, beq_eq_false_iff_ne, bne_eq_false_iff_eq, Int.not_lt, Int.not_le, ge_iff_le, gt_iff_lt, not_and, ne_eq, Decidable.not_not] at hc'
        all_goals (try (dsimp only [st, setL, AV.cells, List.set_cons_zero, List.set_cons_succ, List.drop_zero, List.drop_succ_cons, List.take_zero, List.take_succ_cons, Nat.zero_add, Nat.add_zero, Nat.reduceAdd, List.cons_append, List.nil_append, List.eraseIdx_cons_zero, List.eraseIdx_cons_succ]))
        all_goals (refine W ?_)
        · (first | refine LS_gt rfl ?_ ?_ | refine LS_gf rfl ?_ ?_ | refine LI_cond rfl ?_ ?_) <;> intro hc <;> have hc' := hc <;> try simp only [decide_eq_true_eq, decide_eq_false_iff_not, Bool.not_eq_true', Bool.not_eq_false', Bool.not_eq_true, Bool.not_eq_false, beq_iff_eq, bne_iff_ne, beq_eq_false_iff_ne, bne_eq_false_iff_eq, Int.not_lt, Int.not_le, ge_iff_le, gt_iff_lt, not_and, ne_eq, Decidable.not_not] at hc'
          all_goals (try (dsimp only [st, setL, AV.cells, List.set_cons_zero, List.set_cons_succ, List.drop_zero, List.drop_succ_cons, List.take_zero, List.take_succ_cons, Nat.zero_add, Nat.add_zero, Nat.reduceAdd, List.cons_append, List.nil_append, List.eraseIdx_cons_zero, List.eraseIdx_cons_succ]))
          all_goals (refine W ?_)
          · have hAi : A (i.toNat + 1) = A i.toNat := by rw [hAs _ _ hx, show most.toNat - (A i.toNat).length = 0 by omega]; simp
            refine IH (j - 1) _ _ (by omega) ⟨out, us, i + 1, exJ rfl, by rw [toNat_succ h0, hAi], by rw [toNat_succ h0, hAi]; exact hul, by omega, by omega, lo, so⟩
          · refine LS_co (fun h' HL wf => l1Own_ac c v h' (hR.le HL.le) (by omega)) enI1 rfl rfl fun w1 lw1 sw1 => ?_
            try (dsimp only [st, setL, AV.cells, List.set_cons_zero, List.set_cons_succ, List.drop_zero, List.drop_succ_cons, List.take_zero, List.take_succ_cons, Nat.zero_add, Nat.add_zero, Nat.reduceAdd, List.cons_append, List.nil_append, List.eraseIdx_cons_zero, List.eraseIdx_cons_succ])
            refine W ?_
            refine LS_lt [lastD c + x] rfl rfl (by decide) rfl rfl rfl rfl enI1 rfl rfl fun w2 lw2 sw2 => ?_
            try (dsimp only [st, setL, AV.cells, List.set_cons_zero, List.set_cons_succ, List.drop_zero, List.drop_succ_cons, List.take_zero, List.take_succ_cons, Nat.zero_add, Nat.add_zero, Nat.reduceAdd, List.cons_append, List.nil_append, List.eraseIdx_cons_zero, List.eraseIdx_cons_succ])
            refine W ?_
            refine LS_ap 1 rfl (fun h' HL => HL.rdI 0 rfl enI1 (by decide)) enI1 (by decide) (by simp) (by simp; omega) (by simp; omega) rfl rfl rfl fun w3 lw3 sw3 => ?_
            try (dsimp only [st, setL, AV.cells, List.set_cons_zero, List.set_cons_succ, List.drop_zero, List.drop_succ_cons, List.take_zero, List.take_succ_cons, Nat.zero_add, Nat.add_zero, Nat.reduceAdd, List.cons_append, List.nil_append, List.eraseIdx_cons_zero, List.eraseIdx_cons_succ])
            refine W ?_
            refine LS_c1 (fun h' HL wf => by have H := shSearch_ac n hn k (c ++ [lastD c + x]) (most - us.length) w3 h' (by simp; omega) (goodC_snoc hgc hxm) (by rw [lastD_snoc]; omega) (by omega) (HL.rdI 1 rfl enI1 (by decide)); rw [show ((k : Nat) : Int) = ((k + 1 : Nat) : Int) - 1 by omega] at H; exact H) rfl rfl ?_
            try (dsimp only [st, setL, AV.cells, List.set_cons_zero, List.set_cons_succ, List.drop_zero, List.drop_succ_cons, List.take_zero, List.take_succ_cons, Nat.zero_add, Nat.add_zero, Nat.reduceAdd, List.cons_append, List.nil_append, List.eraseIdx_cons_zero, List.eraseIdx_cons_succ])
            refine W ?_
            rintro r6 _ ⟨us2, hul2, l6, s6, rfl⟩
            have hb2 : ((allS n k (c ++ [lastD c + x])).take (most - us.length).toNat).length ≤ (most - us.length).toNat := List.length_take_le _ _
            have e5 : (most - us.length).toNat = most.toNat - (A i.toNat).length := by omega
            unfold ssI
            try (dsimp only [st, setL, AV.cells, List.set_cons_zero, List.set_cons_succ, List.drop_zero, List.drop_succ_cons, List.take_zero, List.take_succ_cons, Nat.zero_add, Nat.add_zero, Nat.reduceAdd, List.cons_append, List.nil_append, List.eraseIdx_cons_zero, List.eraseIdx_cons_succ])
            refine W ?_
            refine LS_perm (perm_ss _ _ _ _ _ _) ?_
            refine LS_ap0 0 rfl (fun h' HL => HL.rdI 1 rfl enV1 (by decide)) enV1 (by decide) (by omega) (by omega) rfl rfl rfl fun w7 lw7 sw7 => ?_
            try (dsimp only [st, setL, AV.cells, List.set_cons_zero, List.set_cons_succ, List.drop_zero, List.drop_succ_cons, List.take_zero, List.take_succ_cons, Nat.zero_add, Nat.add_zero, Nat.reduceAdd, List.cons_append, List.nil_append, List.eraseIdx_cons_zero, List.eraseIdx_cons_succ])
            refine W ?_
            have hAi : A (i.toNat + 1) = A i.toNat ++ (allS n k (c ++ [lastD c + x])).take (most - us.length).toNat := by rw [hAs _ _ hx, e5]
            refine LIL_sub (L' := .sl w7 1 ((us ++ us2).flatMap enV) :: rowsI (us ++ us2) (A i.toNat ++ (allS n k (c ++ [lastD c + x])).take (most - us.length).toNat)) (.cons_cons _ (.cons _ (by rw [rowsI_app _ _ hul, ← List.append_assoc]; exact List.sublist_append_left _ _))) ?_
            refine IH (j - 1) _ _ (by omega) ⟨w7, us ++ us2, i + 1, exJ rfl, by rw [toNat_succ h0, hAi], by rw [toNat_succ h0, hAi, List.length_append, List.length_append]; omega, by omega, by omega, lw7, sw7⟩
        · have hsh := shl_small (m := lastD c + x) (k := k) (by omega) (by omega) (by omega)
          rw [hsh] at hc'
          have hF0 : allS n k (c ++ [lastD c + x]) = [] := allS_lt k _ (goodC_snoc hgc hxm) (by rw [lastD_snoc]; exact hc')
          have hAi : A (i.toNat + 1) = A i.toNat := by rw [hAs _ _ hx, hF0]; simp
          refine IH (j - 1) _ _ (by omega) ⟨out, us, i + 1, exJ rfl, by rw [toNat_succ h0, hAi], by rw [toNat_succ h0, hAi]; exact hul, by omega, by omega, lo, so⟩
      · have hF0 : allS n k (c ++ [lastD c + x]) = [] := allS_gt k _ (goodC_snoc hgc hxm) (by rw [lastD_snoc]; exact hc')
        have hAi : A (i.toNat + 1) = A i.toNat := by rw [hAs _ _ hx, hF0]; simp
        refine IH (j - 1) _ _ (by omega) ⟨out, us, i + 1, exJ rfl, by rw [toNat_succ h0, hAi], by rw [toNat_succ h0, hAi]; exact hul, by omega, by omega, lo, so⟩
    · have et : (allS n (k + 1) c).take most.toNat = A i.toNat := by
        rw [hA]
        show _ = ((c.take i.toNat).flatMap _).take _
        rw [show i.toNat = c.length by omega, List.take_length, allS]
      refine RET fun h' HL => ?_
      try dsimp only [oneA]
      rw [et]
      exact ⟨_, ⟨us, hul, lo, so, rfl⟩, by unfold ssI; rw [List.append_nil]; exact HL⟩

/-! ### The program's search -/
theorem perm_in2 (M Lr : List It) (x y : It) : (x :: y :: (M ++ Lr)).Perm (M ++ (x :: y :: Lr)) :=
  ((List.perm_middle (l₁ := M) (a := y) (l₂ := Lr)).symm.cons x).trans (List.perm_middle (l₁ := M) (a := x) (l₂ := y :: Lr)).symm

theorem shl_small' {m z : Int} {k : Nat} (hz : z = k) (hk : k ≤ 12) (h0 : 0 ≤ m) (h1 : m ≤ 200) : IntKind.i64.wrap (m * 2 ^ min z.toNat IntKind.i64.bits) = m * 2 ^ k := by
  have := shl_small (m := m) (k := k) hk h0 h1
  rw [show ((k + 1 : Nat) : Int) - 1 = z by omega] at this
  exact this

theorem foldU_good {σ : Type} {step : σ → List Int → σ × Bool} {Good : σ → Prop} (hG : ∀ s c, Good s → (step s c).2 = false → Good (step s c).1) : ∀ (l : List (List Int)) (s : σ), Good s → (foldU step s l).2 = false → Good (foldU step s l).1
  | [], s, h, _ => h
  | c :: l, s, h, e => by
    rw [foldU] at e ⊢
    by_cases hc : (step s c).2 = true
    · rw [if_pos hc] at e; cases e
    · rw [if_neg hc] at e ⊢
      exact foldU_good hG l _ (hG s c h (by simpa using hc)) e

theorem stars_ac {σ : Type} (n : Int) (hn : 1 ≤ n ∧ n ≤ 100) (len : Nat) (hlen : len ≤ 12) (g : FuncId) (caps : List AV) (step : σ → List Int → σ × Bool) (R : σ → List It → Prop) (Good : σ → Prop)
    (hG : ∀ s c, Good s → (step s c).2 = false → Good (step s c).1)
    (hE : ∀ (s : σ) (c : List Int) (w : AV) (h0 h : AH) (M Lr : List It), Good s → R s M → Loq h0 h (M ++ Lr) → (∀ h', Loq h0 h' Lr → Rd h' w c) → c.length ≤ 13 → AC Try.prog g (w :: caps) h (fun r h' => ∃ N, (∃ M1, r = .b (step s c).2 ∧ R (step s c).1 M1 ∧ N = M1 ++ Lr) ∧ Loq h0 h' N)) :
    ∀ (k : Nat) (c : List Int) (w : AV) (s : σ) (h0 h : AH) (M Lr : List It), c.length + k = len + 1 → goodC c → lastD c ≤ 200 → Good s → R s M → Loq h0 h (M ++ Lr) → (∀ h', Loq h0 h' Lr → Rd h' w c) →
    AC Try.prog 70 [.i .i64 n, .i .i64 (len : Nat), w, .f g caps] h (fun r h' => ∃ N, (∃ M1, r = .b (foldU step s (allS n k c)).2 ∧ R (foldU step s (allS n k c)).1 M1 ∧ N = M1 ++ Lr) ∧ Loq h0 h' N)
  | 0, c, w, s, h0, h, M, Lr, hk, hg, hl, hs, hRs, HL, hw => by
    have hR := hw h (HL.sub (List.sublist_append_right _ _))
    have hln := hR.len
    have hcl : 0 < c.length := List.length_pos_iff.2 hg.1
    refine e70 _ _ _ _ fun wf => ?_
    unfold c70
    refine LI_startL HL ?_
    refine W ?_
    refine LS_ix (y := lastD c) (fun h' HL' => hw h' (HL'.sub (List.sublist_append_right _ _))) enI1 (lastD_at hg) (by omega) rfl rfl fun q1 o1 hrow1 => ?_
    try (dsimp only [st, setL, AV.cells, List.set_cons_zero, List.set_cons_succ, List.drop_zero, List.drop_succ_cons, List.take_zero, List.take_succ_cons, Nat.zero_add, Nat.add_zero, Nat.reduceAdd, List.cons_append, List.nil_append, List.eraseIdx_cons_zero, List.eraseIdx_cons_succ])
    refine W ?_
    first | (refine LS_gyH rfl (decide_eq_true (by omega)) ?_; intro hg) | (refine LI_cond_tH rfl (decide_eq_true (by omega)) ?_; intro hg)
    refine W ?_
    (first | refine LS_gt rfl ?_ ?_ | refine LS_gf rfl ?_ ?_ | refine LI_cond rfl ?_ ?_) <;> intro hc <;> have hc' := hc <;> try simp only [decide_eq_true_eq, decide_eq_false_iff_not, Bool.not_eq_true', Bool.not_eq_false', Bool.not_eq_true, Bool.not_eq_false, beq_iff_eq, bne_iff_ne, beq_eq_false_iff_ne, bne_eq_false_iff_eq, Int.not_lt, Int.not_le, ge_iff_le, gt_iff_lt, not_and, ne_eq, Decidable.not_not] at hc'
    all_goals (try (dsimp only [st, setL, AV.cells, List.set_cons_zero, List.set_cons_succ, List.drop_zero, List.drop_succ_cons, List.take_zero, List.take_succ_cons, Nat.zero_add, Nat.add_zero, Nat.reduceAdd, List.cons_append, List.nil_append, List.eraseIdx_cons_zero, List.eraseIdx_cons_succ]))
    all_goals (refine W ?_)
    · have e : lastD c = n := by first | exact hc' | simpa using hc
      refine LS_cm (.refl _) (fun h' HL' wf => hE s c w h0 h' M Lr hs hRs HL' hw (by omega)) rfl rfl ?_
      try (dsimp only [st, setL, AV.cells, List.set_cons_zero, List.set_cons_succ, List.drop_zero, List.drop_succ_cons, List.take_zero, List.take_succ_cons, Nat.zero_add, Nat.add_zero, Nat.reduceAdd, List.cons_append, List.nil_append, List.eraseIdx_cons_zero, List.eraseIdx_cons_succ])
      refine W ?_
      rintro _ _ ⟨M1, rfl, hR1, rfl⟩
      try (dsimp only [st, setL, AV.cells, List.set_cons_zero, List.set_cons_succ, List.drop_zero, List.drop_succ_cons, List.take_zero, List.take_succ_cons, Nat.zero_add, Nat.add_zero, Nat.reduceAdd, List.cons_append, List.nil_append, List.eraseIdx_cons_zero, List.eraseIdx_cons_succ])
      refine W ?_
      refine RET fun h' HL => ?_
      try dsimp only [oneA]
      have e2 : foldU step s (allS n 0 c) = step s c := by
        rw [allS, if_pos e, foldU]
        by_cases hb : (step s c).2 = true
        · rw [if_pos hb, ← hb]
        · rw [if_neg hb, foldU]
          have : (step s c).2 = false := by simpa using hb
          rw [← this]
      exact ⟨_, ⟨M1, by rw [e2], by rw [e2]; exact hR1, rfl⟩, HL⟩
    · have e : lastD c ≠ n := by first | exact hc' | simpa using hc
      refine RET fun h' HL => ?_
      try dsimp only [oneA]
      have e2 : foldU step s (allS n 0 c) = (s, false) := by rw [allS, if_neg e, foldU]
      exact ⟨_, ⟨M, by rw [e2], by rw [e2]; exact hRs, rfl⟩, HL⟩
  | k + 1, c, w, s, h0, h, M, Lr, hk, hgc, hl, hs, hRs, HL, hw => by
    have hR := hw h (HL.sub (List.sublist_append_right _ _))
    have hln := hR.len
    have hcl : 0 < c.length := List.length_pos_iff.2 hgc.1
    have hl1 := hgc.last
    obtain ⟨A, hA⟩ : ∃ A : Nat → σ × Bool, A = fun m => foldU step s ((c.take m).flatMap fun x => allS n k (c ++ [lastD c + x])) := ⟨_, rfl⟩
    have hA0 : A 0 = (s, false) := by rw [hA]; simp [foldU]
    have hAs : ∀ (m : Nat) (x : Int), c[m]? = some x → (A m).2 = false → A (m + 1) = foldU step (A m).1 (allS n k (c ++ [lastD c + x])) := by
      intro m x hx hf
      rw [hA] at hf ⊢
      show foldU step s ((c.take (m + 1)).flatMap _) = _
      rw [take_snoc hx, List.flatMap_append, foldU_app, if_neg (by rw [hf]; simp)]
      simp
    have hAall : ∀ m, (A m).2 = true → foldU step s (allS n (k + 1) c) = A m := by
      intro m hm
      rw [hA] at hm ⊢
      have e : allS n (k + 1) c = ((c.take m).flatMap fun x => allS n k (c ++ [lastD c + x])) ++ ((c.drop m).flatMap fun x => allS n k (c ++ [lastD c + x])) := by
        rw [← List.flatMap_append, List.take_append_drop]; rfl
      rw [e, foldU_app, if_pos hm]
    have hAend : A c.length = foldU step s (allS n (k + 1) c) := by
      rw [hA]
      show foldU step s ((c.take c.length).flatMap _) = _
      rw [List.take_length]; rfl
    have hAg : ∀ m, (A m).2 = false → Good (A m).1 := by
      intro m hm
      rw [hA] at hm ⊢
      exact foldU_good hG _ s hs hm
    refine e70 _ _ _ _ fun wf => ?_
    unfold c70
    refine LI_startL HL ?_
    refine W ?_
    refine LS_ix (y := lastD c) (fun h' HL' => hw h' (HL'.sub (List.sublist_append_right _ _))) enI1 (lastD_at hgc) (by omega) rfl rfl fun q1 o1 hrow1 => ?_
    try (dsimp only [st, setL, AV.cells, List.set_cons_zero, List.set_cons_succ, List.drop_zero, List.drop_succ_cons, List.take_zero, List.take_succ_cons, Nat.zero_add, Nat.add_zero, Nat.reduceAdd, List.cons_append, List.nil_append, List.eraseIdx_cons_zero, List.eraseIdx_cons_succ])
    refine W ?_
    first | (refine LS_gtnH rfl (decide_eq_false (by omega)) ?_; intro hg; try (dsimp only [st, setL, AV.cells, List.set_cons_zero, List.set_cons_succ, List.drop_zero, List.drop_succ_cons, List.take_zero, List.take_succ_cons, Nat.zero_add, Nat.add_zero, Nat.reduceAdd, List.cons_append, List.nil_append, List.eraseIdx_cons_zero, List.eraseIdx_cons_succ])) | (refine LS_gfnH rfl (decide_eq_false (by omega)) ?_; intro hg; try (dsimp only [st, setL, AV.cells, List.set_cons_zero, List.set_cons_succ, List.drop_zero, List.drop_succ_cons, List.take_zero, List.take_succ_cons, Nat.zero_add, Nat.add_zero, Nat.reduceAdd, List.cons_append, List.nil_append, List.eraseIdx_cons_zero, List.eraseIdx_cons_succ])) | (refine LI_cond_fH rfl (decide_eq_false (by omega)) ?_; intro hg)
    refine W ?_
    (first | refine LS_gt rfl ?_ ?_ | refine LS_gf rfl ?_ ?_ | refine LI_cond rfl ?_ ?_) <;> intro hc <;> have hc' := hc <;> try simp only [decide_eq_true_eq, decide_eq_false_iff_not, Bool.not_eq_true', Bool.not_eq_false', Bool.not_eq_true, Bool.not_eq_false, beq_iff_eq, bne_iff_ne, beq_eq_false_iff_ne, bne_eq_false_iff_eq, Int.not_lt, Int.not_le, ge_iff_le, gt_iff_lt, not_and, ne_eq, Decidable.not_not] at hc'
    all_goals (try (dsimp only [st, setL, AV.cells, List.set_cons_zero, List.set_cons_succ, List.drop_zero, List.drop_succ_cons, List.take_zero, List.take_succ_cons, Nat.zero_add, Nat.add_zero, Nat.reduceAdd, List.cons_append, List.nil_append, List.eraseIdx_cons_zero, List.eraseIdx_cons_succ]))
    all_goals (refine W ?_)
    · refine LS_v (OpV_shl rfl rfl (by omega)) ?_
      try (dsimp only [st, setL, AV.cells, List.set_cons_zero, List.set_cons_succ, List.drop_zero, List.drop_succ_cons, List.take_zero, List.take_succ_cons, Nat.zero_add, Nat.add_zero, Nat.reduceAdd, List.cons_append, List.nil_append, List.eraseIdx_cons_zero, List.eraseIdx_cons_succ])
      refine W ?_
      rw [shl_small' (m := lastD c) (z := (len : Int) - c.length + 1) (k := k + 1) (by omega) (by omega) (by omega) (by omega)]
      refine W ?_
      (first | refine LS_gt rfl ?_ ?_ | refine LS_gf rfl ?_ ?_ | refine LI_cond rfl ?_ ?_) <;> intro hc <;> have hc' := hc <;> try simp only [decide_eq_true_eq, decide_eq_false_iff_not, Bool.not_eq_true', Bool.not_eq_false', Bool.not_eq_true, Bool.not_eq_false, beq_iff_eq, bne_iff_ne, beq_eq_false_iff_ne, bne_eq_false_iff_eq, Int.not_lt, Int.not_le, ge_iff_le, gt_iff_lt, not_and, ne_eq, Decidable.not_not] at hc'
      all_goals (try (dsimp only [st, setL, AV.cells, List.set_cons_zero, List.set_cons_succ, List.drop_zero, List.drop_succ_cons, List.take_zero, List.take_succ_cons, Nat.zero_add, Nat.add_zero, Nat.reduceAdd, List.cons_append, List.nil_append, List.eraseIdx_cons_zero, List.eraseIdx_cons_succ]))
      all_goals (refine W ?_)
      · have e2 : foldU step s (allS n (k + 1) c) = (s, false) := by rw [allS_lt (k + 1) c hgc hc', foldU]
        refine RET fun h' HL => ?_
        try dsimp only [oneA]
        exact ⟨_, ⟨M, by rw [e2], by rw [e2]; exact hRs, rfl⟩, HL⟩
      · refine LIL_ind (fun j a L => ∃ (M' : List It) (i : Int), (∃ r : Nat → AV, a = [.i .i64 n, .i .i64 (len : Nat), w, .f g caps, r 4, r 5, r 6, r 7, r 8, .i .i64 (lastD c), r 10, r 11, r 12, r 13, r 14, r 15, r 16, r 17, r 18, r 19, r 20, r 21, r 22, r 23, r 24, r 25, r 26, r 27, r 28, r 29, r 30, r 31, r 32, r 33, r 34, r 35, r 36, r 37, r 38, r 39, r 40, r 41, r 42, r 43, r 44, r 45, w, .i .i64 c.length, .i .i64 i, r 49, r 50, r 51, r 52, r 53, r 54, r 55, r 56, r 57, r 58, r 59, r 60, r 61, r 62, r 63]) ∧ L = M' ++ Lr ∧ 0 ≤ i ∧ i + j = c.length ∧ (A i.toNat).2 = false ∧ R (A i.toNat).1 M')
          c.length ⟨M, 0, exJ rfl, rfl, by omega, by omega, by rw [show (0 : Int).toNat = 0 from rfl, hA0], by rw [show (0 : Int).toNat = 0 from rfl, hA0]; exact hRs⟩ ?_
        rintro j a _ ⟨M', i, ⟨r, rfl⟩, rfl, h0', hj, hAf, hRi⟩ IH
        refine W ?_
        (first | refine LS_gt rfl ?_ ?_ | refine LS_gf rfl ?_ ?_ | refine LI_cond rfl ?_ ?_) <;> intro hc <;> have hc' := hc <;> try simp only [decide_eq_true_eq, decide_eq_false_iff_not, Bool.not_eq_true', Bool.not_eq_false', Bool.not_eq_true, Bool.not_eq_false, beq_iff_eq, bne_iff_ne, beq_eq_false_iff_ne, bne_eq_false_iff_eq, Int.not_lt, Int.not_le, ge_iff_le, gt_iff_lt, not_and, ne_eq, Decidable.not_not] at hc'
        all_goals (try (dsimp only [st, setL, AV.cells, List.set_cons_zero, List.set_cons_succ, List.drop_zero, List.drop_succ_cons, List.take_zero, List.take_succ_cons, Nat.zero_add, Nat.add_zero, Nat.reduceAdd, List.cons_append, List.nil_append, List.eraseIdx_cons_zero, List.eraseIdx_cons_succ]))
        all_goals (refine W ?_)
        · obtain ⟨x, hx, hxm, _⟩ := drop_at (l := c) h0' hc'
          have hxb := hgc.2 x hxm
          refine LS_ix (fun h' HL' => hw h' (HL'.sub (List.sublist_append_right _ _))) enI1 hx h0' rfl rfl fun q2 o2 hrow2 => ?_
          try (dsimp only [st, setL, AV.cells, List.set_cons_zero, List.set_cons_succ, List.drop_zero, List.drop_succ_cons, List.take_zero, List.take_succ_cons, Nat.zero_add, Nat.add_zero, Nat.reduceAdd, List.cons_append, List.nil_append, List.eraseIdx_cons_zero, List.eraseIdx_cons_succ])
          refine W ?_
          refine LS_c0 (fun h' HL' wf => Clip_ac c w h' (hw h' (HL'.sub (List.sublist_append_right _ _))) (by omega)) rfl rfl ?_
          try (dsimp only [st, setL, AV.cells, List.set_cons_zero, List.set_cons_succ, List.drop_zero, List.drop_succ_cons, List.take_zero, List.take_succ_cons, Nat.zero_add, Nat.add_zero, Nat.reduceAdd, List.cons_append, List.nil_append, List.eraseIdx_cons_zero, List.eraseIdx_cons_succ])
          refine W ?_
          refine LS_lt [lastD c + x] rfl rfl (by decide) rfl rfl rfl rfl enI1 rfl rfl fun w2 lw2 sw2 => ?_
          try (dsimp only [st, setL, AV.cells, List.set_cons_zero, List.set_cons_succ, List.drop_zero, List.drop_succ_cons, List.take_zero, List.take_succ_cons, Nat.zero_add, Nat.add_zero, Nat.reduceAdd, List.cons_append, List.nil_append, List.eraseIdx_cons_zero, List.eraseIdx_cons_succ])
          refine W ?_
          refine LS_o (LO_apc (clipA_c hR) (fun h' HL' => clipA_rd (hw h' (HL'.sub (.cons _ (List.sublist_append_right _ _))))) (fun h' HL' => HL'.rdI 0 rfl enI1 (by decide)) enI1 (by decide) (by simp) (by simp; omega) (by simp; omega) rfl rfl rfl fun w3 lw3 sw3 => ?_)
          try (dsimp only [st, setL, AV.cells, List.set_cons_zero, List.set_cons_succ, List.drop_zero, List.drop_succ_cons, List.take_zero, List.take_succ_cons, Nat.zero_add, Nat.add_zero, Nat.reduceAdd, List.cons_append, List.nil_append, List.eraseIdx_cons_zero, List.eraseIdx_cons_succ])
          refine W ?_
          refine LS_cm (perm_in2 M' Lr _ _) (fun h' HL' wf => stars_ac n hn len hlen g caps step R Good hG hE k (c ++ [lastD c + x]) w3 (A i.toNat).1 h0 h' M' (.sl w3 1 ((c ++ [lastD c + x]).flatMap enI) :: .sl w2 1 ([lastD c + x].flatMap enI) :: Lr) (by simp; omega) (goodC_snoc hgc hxm) (by rw [lastD_snoc]; omega) (hAg _ hAf) hRi HL' (fun h2 HL2 => HL2.rdI 0 rfl enI1 (by decide))) rfl rfl ?_
          try (dsimp only [st, setL, AV.cells, List.set_cons_zero, List.set_cons_succ, List.drop_zero, List.drop_succ_cons, List.take_zero, List.take_succ_cons, Nat.zero_add, Nat.add_zero, Nat.reduceAdd, List.cons_append, List.nil_append, List.eraseIdx_cons_zero, List.eraseIdx_cons_succ])
          refine W ?_
          rintro _ _ ⟨M1, rfl, hR1, rfl⟩
          try (dsimp only [st, setL, AV.cells, List.set_cons_zero, List.set_cons_succ, List.drop_zero, List.drop_succ_cons, List.take_zero, List.take_succ_cons, Nat.zero_add, Nat.add_zero, Nat.reduceAdd, List.cons_append, List.nil_append, List.eraseIdx_cons_zero, List.eraseIdx_cons_succ])
          rw [← hAs _ _ hx hAf] at hR1 ⊢
          refine W ?_
          (first | refine LS_gt rfl ?_ ?_ | refine LS_gf rfl ?_ ?_ | refine LI_cond rfl ?_ ?_) <;> intro hc <;> have hc' := hc <;> try simp only [decide_eq_true_eq, decide_eq_false_iff_not, Bool.not_eq_true', Bool.not_eq_false', Bool.not_eq_true, Bool.not_eq_false, beq_iff_eq, bne_iff_ne, beq_eq_false_iff_ne, bne_eq_false_iff_eq, Int.not_lt, Int.not_le, ge_iff_le, gt_iff_lt, not_and, ne_eq, Decidable.not_not] at hc'
          all_goals (try (dsimp only [st, setL, AV.cells, List.set_cons_zero, List.set_cons_succ, List.drop_zero, List.drop_succ_cons, List.take_zero, List.take_succ_cons, Nat.zero_add, Nat.add_zero, Nat.reduceAdd, List.cons_append, List.nil_append, List.eraseIdx_cons_zero, List.eraseIdx_cons_succ]))
          all_goals (refine W ?_)
          · have e3 := hAall _ hc
            refine RET fun h' HL => ?_
            try dsimp only [oneA]
            exact ⟨_, ⟨M1, by rw [e3, hc], by rw [e3]; exact hR1, rfl⟩, HL.sub (List.Sublist.append (List.Sublist.refl _) (.cons _ (.cons _ (.refl _))))⟩
          · refine LIL_sub (L' := M1 ++ Lr) (List.Sublist.append (List.Sublist.refl _) (.cons _ (.cons _ (.refl _)))) ?_
            refine IH (j - 1) _ _ (by omega) ⟨M1, i + 1, exJ rfl, rfl, by omega, by omega, by rw [toNat_succ h0']; exact hc, by rw [toNat_succ h0']; exact hR1⟩
        · have ei : i.toNat = c.length := by omega
          rw [ei] at hAf hRi
          rw [hAend] at hAf hRi
          refine RET fun h' HL => ?_
          try dsimp only [oneA]
          exact ⟨_, ⟨M', by rw [hAf], hRi, rfl⟩, HL⟩
    · have e2 : foldU step s (allS n (k + 1) c) = (s, false) := by rw [allS_ge k c hgc (by omega), foldU]
      refine RET fun h' HL => ?_
      try dsimp only [oneA]
      exact ⟨_, ⟨M, by rw [e2], by rw [e2]; exact hRs, rfl⟩, HL⟩

/-! ### First and shortest star chains -/
theorem lengthOk_ac (n : Int) (h : AH) : AC Try.prog 60 [.i .i64 n] h (fun v h' => v = .b (decide (0 ≤ n ∧ n ≤ 8)) ∧ h = h') := by
  refine e60 _ fun wf => ?_
  unfold c60
  repeat (first | refine AI_seqk fun K hK => ?_ | refine AI_reg ?_ | ((first | refine wmv rfl ?_ | refine wag rfl ?_ | refine war _ rfl rfl rfl (by omega) (by omega) ?_ | refine wbn rfl rfl rfl ?_ | refine wnt rfl ?_ | refine wex rfl rfl ?_ | refine wpt rfl (by first | assumption | with_reducible rfl) rfl ?_ | refine wpf rfl (by first | assumption | with_reducible rfl) rfl ?_ | refine wpb rfl rfl rfl ?_ | refine wmf rfl ?_ | refine wnc rfl ?_ | refine wbq Try.underlying4 rfl rfl _ (.inr ⟨rfl, rfl⟩) ?_ | refine wbq Try.underlying4 rfl rfl _ (.inl ⟨rfl, rfl⟩) ?_); try dsimp only [st, List.set_cons_zero, List.set_cons_succ]) | ((first | refine AS_nil ?_ | refine AI_skip ?_ | refine AI_exit ?_); try simp only [AThen, ABlk, reduceIte, reduceCtorEq]) | ((first | refine hK _ _ ?_ | ((first | clear hK K | clear IH hK K); refine hK _ _ ?_) | ((first | clear hK K | clear IH hK K); (first | clear hK K | clear IH hK K); refine hK _ _ ?_) | ((first | clear hK K | clear IH hK K); (first | clear hK K | clear IH hK K); (first | clear hK K | clear IH hK K); refine hK _ _ ?_)); try (first | clear hK K | clear IH hK K)) | refine AI_cond_t rfl (by first | assumption | with_reducible rfl) ?_ | refine AI_cond_f rfl (by first | assumption | with_reducible rfl) ?_ | refine AS_gy rfl (by first | assumption | with_reducible rfl) ?_ | refine AS_gtn rfl (by first | assumption | with_reducible rfl) ?_ | refine AS_gfn rfl (by first | assumption | with_reducible rfl) ?_ | refine AI_block (AI_loop ?_) | refine AI_block ?_ | refine AI_ret ⟨_, rfl, ?_⟩)
  refine AS_op (OpR_call rfl rfl (in_ac _ _ _ _) ?_)
  rintro _ _ wf1 ⟨rfl, rfl⟩
  try (dsimp only [st, setL, AV.cells, List.set_cons_zero, List.set_cons_succ, List.drop_zero, List.drop_succ_cons, List.take_zero, List.take_succ_cons, Nat.zero_add, Nat.add_zero, Nat.reduceAdd, List.cons_append, List.nil_append, List.eraseIdx_cons_zero, List.eraseIdx_cons_succ])
  repeat (first | refine AI_seqk fun K hK => ?_ | refine AI_reg ?_ | ((first | refine wmv rfl ?_ | refine wag rfl ?_ | refine war _ rfl rfl rfl (by omega) (by omega) ?_ | refine wbn rfl rfl rfl ?_ | refine wnt rfl ?_ | refine wex rfl rfl ?_ | refine wpt rfl (by first | assumption | with_reducible rfl) rfl ?_ | refine wpf rfl (by first | assumption | with_reducible rfl) rfl ?_ | refine wpb rfl rfl rfl ?_ | refine wmf rfl ?_ | refine wnc rfl ?_ | refine wbq Try.underlying4 rfl rfl _ (.inr ⟨rfl, rfl⟩) ?_ | refine wbq Try.underlying4 rfl rfl _ (.inl ⟨rfl, rfl⟩) ?_); try dsimp only [st, List.set_cons_zero, List.set_cons_succ]) | ((first | refine AS_nil ?_ | refine AI_skip ?_ | refine AI_exit ?_); try simp only [AThen, ABlk, reduceIte, reduceCtorEq]) | ((first | refine hK _ _ ?_ | ((first | clear hK K | clear IH hK K); refine hK _ _ ?_) | ((first | clear hK K | clear IH hK K); (first | clear hK K | clear IH hK K); refine hK _ _ ?_) | ((first | clear hK K | clear IH hK K); (first | clear hK K | clear IH hK K); (first | clear hK K | clear IH hK K); refine hK _ _ ?_)); try (first | clear hK K | clear IH hK K)) | refine AI_cond_t rfl (by first | assumption | with_reducible rfl) ?_ | refine AI_cond_f rfl (by first | assumption | with_reducible rfl) ?_ | refine AS_gy rfl (by first | assumption | with_reducible rfl) ?_ | refine AS_gtn rfl (by first | assumption | with_reducible rfl) ?_ | refine AS_gfn rfl (by first | assumption | with_reducible rfl) ?_ | refine AI_block (AI_loop ?_) | refine AI_block ?_ | refine AI_ret ⟨_, rfl, ?_⟩)
  exact ⟨rfl, rfl⟩

def firstL (n : Int) (k : Nat) : List Int := ((allS n k [1]).head?).getD []

def hasS (n : Int) (k : Nat) : Bool := !(allS n k [1]).isEmpty

theorem hasS_iff {n : Int} {k : Nat} : hasS n k = true ↔ allS n k [1] ≠ [] := by unfold hasS; cases allS n k [1] <;> simp

theorem hasS_no {n : Int} {k : Nat} (h : hasS n k = false) : allS n k [1] = [] ∧ firstL n k = [] := by
  unfold hasS at h; unfold firstL
  cases e : allS n k [1] with
  | nil => simp
  | cons c l => rw [e] at h; simp at h

theorem hasS_yes {n : Int} {k : Nat} (h : hasS n k = true) : ∃ l, allS n k [1] = firstL n k :: l := by
  unfold hasS at h; unfold firstL
  cases e : allS n k [1] with
  | nil => rw [e] at h; simp at h
  | cons c l => exact ⟨l, by simp⟩

theorem fold_first (n : Int) (k : Nat) : foldU (fun (_ : List Int) c => (c, true)) [] (allS n k [1]) = (firstL n k, hasS n k) := by
  unfold firstL hasS
  cases allS n k [1] <;> simp [foldU]

theorem shK_has {n : Int} (h0 : 1 ≤ n) (h1 : n ≤ 100) : hasS n (shK n) = true := hasS_iff.2 (shK_ok h0 h1).2.2.1

theorem shK_low {n : Int} (h0 : 1 ≤ n) (h1 : n ≤ 100) {j : Nat} (h : hasS n j = true) : shK n ≤ j := by
  refine Classical.byContradiction fun hc => ?_
  exact (hasS_iff.1 h) ((shK_ok h0 h1).2.2.2 j (by omega))

def Rfs (b : Nat) (s : List Int) (M : List It) : Prop := ∃ v, v.sc = true ∧ lenA v = some s.length ∧ M = [.pt b [v], .sl v 1 (s.flatMap enI)]

theorem firstStar1_ac (b : Nat) (s c : List Int) (w : AV) (h0 h : AH) (M Lr : List It) (hRs : Rfs b s M) (HL : Loq h0 h (M ++ Lr)) (hw : ∀ h', Loq h0 h' Lr → Rd h' w c) (hc : c.length ≤ 13) :
    AC Try.prog 89 [w, .p b 0] h (fun r h' => ∃ N, (∃ M1, r = .b true ∧ Rfs b c M1 ∧ N = M1 ++ Lr) ∧ Loq h0 h' N) := by
  obtain ⟨v, sv, lv, rfl⟩ := hRs
  refine e89 _ _ fun wf => ?_
  unfold c89
  refine LI_startL HL ?_
  refine W ?_
  refine LS_co (fun h' HL' wf => Clone_int_ac c w h' (hw h' (loq_dr 2 rfl HL')) (by omega)) enI1 rfl rfl fun v2 lv2 sv2 => ?_
  try (dsimp only [st, setL, AV.cells, List.set_cons_zero, List.set_cons_succ, List.drop_zero, List.drop_succ_cons, List.take_zero, List.take_succ_cons, Nat.zero_add, Nat.add_zero, Nat.reduceAdd, List.cons_append, List.nil_append, List.eraseIdx_cons_zero, List.eraseIdx_cons_succ])
  refine W ?_
  refine RET fun h' HL => ?_
  try dsimp only [oneA]
  exact ⟨_, ⟨_, rfl, ⟨v2, sv2, lv2, rfl⟩, rfl⟩, HL.swap.sub (.cons_cons _ (.cons_cons _ (.cons _ (.refl _))))⟩

theorem perm3 (x y z : It) : [x, y, z].Perm [y, z, x] := (List.perm_append_comm (l₁ := [x]) (l₂ := [y, z]))

theorem firstStar_ac (n len : Int) (h : AH) (hn : 1 ≤ n ∧ n ≤ 100) (hk : 0 ≤ len ∧ len ≤ 12) :
    AC Try.prog 61 [.i .i64 n, .i .i64 len] h (fun r h' => ∃ M, TupI (firstL n len.toNat) (hasS n len.toNat) r M ∧ Loq h h' M) := by
  refine e61 _ _ fun wf => ?_
  unfold c61
  refine LI_start wf ?_
  refine W ?_
  refine LS_lt ([] : List Int) rfl rfl (by decide) rfl rfl rfl rfl enI1 rfl rfl fun w1 lw1 sw1 => ?_
  try (dsimp only [st, setL, AV.cells, List.set_cons_zero, List.set_cons_succ, List.drop_zero, List.drop_succ_cons, List.take_zero, List.take_succ_cons, Nat.zero_add, Nat.add_zero, Nat.reduceAdd, List.cons_append, List.nil_append, List.eraseIdx_cons_zero, List.eraseIdx_cons_succ])
  refine W ?_
  refine LS_al rfl fun b2 => ?_
  try (dsimp only [st, setL, AV.cells, List.set_cons_zero, List.set_cons_succ, List.drop_zero, List.drop_succ_cons, List.take_zero, List.take_succ_cons, Nat.zero_add, Nat.add_zero, Nat.reduceAdd, List.cons_append, List.nil_append, List.eraseIdx_cons_zero, List.eraseIdx_cons_succ])
  refine W ?_
  refine LS_lt [1] rfl rfl (by decide) rfl rfl rfl rfl enI1 rfl rfl fun w3 lw3 sw3 => ?_
  try (dsimp only [st, setL, AV.cells, List.set_cons_zero, List.set_cons_succ, List.drop_zero, List.drop_succ_cons, List.take_zero, List.take_succ_cons, Nat.zero_add, Nat.add_zero, Nat.reduceAdd, List.cons_append, List.nil_append, List.eraseIdx_cons_zero, List.eraseIdx_cons_succ])
  refine W ?_
  refine LS_cm (perm3 _ _ _) (fun h' HL' wf => by have H := stars_ac n hn len.toNat (by omega) 89 [.p b2 0] (fun _ c => (c, true)) (Rfs b2) (fun _ => True) (fun _ _ _ _ => trivial) (fun s c w h0 h M Lr _ hRs HL hw hc => firstStar1_ac b2 s c w h0 h M Lr hRs HL hw hc) len.toNat [1] w3 [] h h' [.pt b2 [w1], .sl w1 1 (([] : List Int).flatMap enI)] [.sl w3 1 ([1].flatMap enI)] (by simp; omega) goodC_one (by simp [lastD]) trivial ⟨w1, sw1, lw1, rfl⟩ HL' (fun h2 HL2 => HL2.rdI 0 rfl enI1 (by decide)); rw [show ((len.toNat : Nat) : Int) = len by omega] at H; simp only [fold_first] at H; exact H) rfl rfl ?_
  try (dsimp only [st, setL, AV.cells, List.set_cons_zero, List.set_cons_succ, List.drop_zero, List.drop_succ_cons, List.take_zero, List.take_succ_cons, Nat.zero_add, Nat.add_zero, Nat.reduceAdd, List.cons_append, List.nil_append, List.eraseIdx_cons_zero, List.eraseIdx_cons_succ])
  refine W ?_
  rintro _ _ ⟨_, rfl, ⟨v, sv, lv, rfl⟩, rfl⟩
  try (dsimp only [st, setL, AV.cells, List.set_cons_zero, List.set_cons_succ, List.drop_zero, List.drop_succ_cons, List.take_zero, List.take_succ_cons, Nat.zero_add, Nat.add_zero, Nat.reduceAdd, List.cons_append, List.nil_append, List.eraseIdx_cons_zero, List.eraseIdx_cons_succ])
  refine W ?_
  refine RET fun h' HL => ?_
  try dsimp only [oneA]
  exact ⟨_, ⟨v, rfl, lv, sv, rfl⟩, HL.sel [1] (by decide)⟩

theorem shortest_ac (n : Int) (h : AH) (hn : 1 ≤ n ∧ n ≤ 100) : AC Try.prog 68 [.i .i64 n] h (fun r h' => Own h 1 enI h' r (firstL n (shK n))) := by
  have hK := shK_ok hn.1 hn.2
  refine e68 _ fun wf => ?_
  unfold c68
  refine LI_start wf ?_
  refine W ?_
  refine LIL_ind (fun j a L => ∃ (i : Int), (∃ r : Nat → AV, a = [.i .i64 n, r 1, r 2, .i .i64 i, r 4, r 5, r 6, r 7, r 8, r 9, r 10, r 11, r 12, r 13, r 14, r 15]) ∧ L = [] ∧ 0 ≤ i ∧ i + j = shK n)
    (shK n) ⟨0, exJ rfl, rfl, by omega, by omega⟩ ?_
  rintro j a _ ⟨i, ⟨r, rfl⟩, rfl, h0, hj⟩ IH
  refine W ?_
  refine LS_c1 (fun h' HL wf => firstStar_ac n i h' hn (by omega)) rfl rfl ?_
  try (dsimp only [st, setL, AV.cells, List.set_cons_zero, List.set_cons_succ, List.drop_zero, List.drop_succ_cons, List.take_zero, List.take_succ_cons, Nat.zero_add, Nat.add_zero, Nat.reduceAdd, List.cons_append, List.nil_append, List.eraseIdx_cons_zero, List.eraseIdx_cons_succ])
  refine W ?_
  rintro _ _ ⟨w, rfl, lw, sw, rfl⟩
  try (dsimp only [st, setL, AV.cells, List.set_cons_zero, List.set_cons_succ, List.drop_zero, List.drop_succ_cons, List.take_zero, List.take_succ_cons, Nat.zero_add, Nat.add_zero, Nat.reduceAdd, List.cons_append, List.nil_append, List.eraseIdx_cons_zero, List.eraseIdx_cons_succ])
  refine W ?_
  (first | refine LS_gt rfl ?_ ?_ | refine LS_gf rfl ?_ ?_ | refine LI_cond rfl ?_ ?_) <;> intro hc <;> have hc' := hc <;> try simp only [decide_eq_true_eq, decide_eq_false_iff_not, Bool.not_eq_true', Bool.not_eq_false', Bool.not_eq_true, Bool.not_eq_false, beq_iff_eq, bne_iff_ne, beq_eq_false_iff_ne, bne_eq_false_iff_eq, Int.not_lt, Int.not_le, ge_iff_le, gt_iff_lt, not_and, ne_eq, Decidable.not_not] at hc'
  all_goals (try (dsimp only [st, setL, AV.cells, List.set_cons_zero, List.set_cons_succ, List.drop_zero, List.drop_succ_cons, List.take_zero, List.take_succ_cons, Nat.zero_add, Nat.add_zero, Nat.reduceAdd, List.cons_append, List.nil_append, List.eraseIdx_cons_zero, List.eraseIdx_cons_succ]))
  all_goals (refine W ?_)
  · have e := shK_low hn.1 hn.2 hc
    have ei : i.toNat = shK n := by omega
    rw [ei]
    refine RET fun h' HL => ?_
    try dsimp only [oneA]
    exact HL.ownI 0 rfl enI1 (by decide)
  · have e : i.toNat ≠ shK n := fun e => by rw [e, shK_has hn.1 hn.2] at hc; cases hc
    refine LIL_drop 1 ?_
    refine IH (j - 1) _ _ (by omega) ⟨i + 1, exJ rfl, rfl, by omega, by omega⟩

theorem shLength_ac (n : Int) (h : AH) (hn : 1 ≤ n ∧ n ≤ 100) : AC Try.prog 67 [.i .i64 n] h (fun r h' => r = .i .i64 (shK n : Nat) ∧ h.le h') := by
  have hK := shK_ok hn.1 hn.2
  refine e67 _ fun wf => ?_
  unfold c67
  refine LI_start wf ?_
  refine W ?_
  refine LIL_ind (fun j a L => ∃ (i : Int), (∃ r : Nat → AV, a = [.i .i64 n, r 1, r 2, .i .i64 i, r 4, r 5, r 6, r 7, r 8, r 9, r 10, r 11, r 12]) ∧ L = [] ∧ 0 ≤ i ∧ i + j = shK n)
    (shK n) ⟨0, exJ rfl, rfl, by omega, by omega⟩ ?_
  rintro j a _ ⟨i, ⟨r, rfl⟩, rfl, h0, hj⟩ IH
  refine W ?_
  refine LS_lt [1] rfl rfl (by decide) rfl rfl rfl rfl enI1 rfl rfl fun w1 lw1 sw1 => ?_
  try (dsimp only [st, setL, AV.cells, List.set_cons_zero, List.set_cons_succ, List.drop_zero, List.drop_succ_cons, List.take_zero, List.take_succ_cons, Nat.zero_add, Nat.add_zero, Nat.reduceAdd, List.cons_append, List.nil_append, List.eraseIdx_cons_zero, List.eraseIdx_cons_succ])
  refine W ?_
  refine LS_c1 (fun h' HL wf => by have H := shSearch_ac n hn i.toNat [1] 1 w1 h' (by simp; omega) goodC_one (by simp [lastD]) (by omega) (HL.rdI 0 rfl enI1 (by decide)); rw [show ((i.toNat : Nat) : Int) = i by omega] at H; exact H) rfl rfl ?_
  try (dsimp only [st, setL, AV.cells, List.set_cons_zero, List.set_cons_succ, List.drop_zero, List.drop_succ_cons, List.take_zero, List.take_succ_cons, Nat.zero_add, Nat.add_zero, Nat.reduceAdd, List.cons_append, List.nil_append, List.eraseIdx_cons_zero, List.eraseIdx_cons_succ])
  refine W ?_
  rintro r2 _ ⟨us, hul, l2, s2, rfl⟩
  unfold ssI
  try (dsimp only [st, setL, AV.cells, List.set_cons_zero, List.set_cons_succ, List.drop_zero, List.drop_succ_cons, List.take_zero, List.take_succ_cons, Nat.zero_add, Nat.add_zero, Nat.reduceAdd, List.cons_append, List.nil_append, List.eraseIdx_cons_zero, List.eraseIdx_cons_succ])
  refine W ?_
  cases hS : hasS n i.toNat
  · rw [(hasS_no hS).1] at hul
    first | (refine LS_gtnH rfl (by simp at hul; simp [hul]) ?_; intro hg; try (dsimp only [st, setL, AV.cells, List.set_cons_zero, List.set_cons_succ, List.drop_zero, List.drop_succ_cons, List.take_zero, List.take_succ_cons, Nat.zero_add, Nat.add_zero, Nat.reduceAdd, List.cons_append, List.nil_append, List.eraseIdx_cons_zero, List.eraseIdx_cons_succ])) | (refine LS_gfnH rfl (by simp at hul; simp [hul]) ?_; intro hg; try (dsimp only [st, setL, AV.cells, List.set_cons_zero, List.set_cons_succ, List.drop_zero, List.drop_succ_cons, List.take_zero, List.take_succ_cons, Nat.zero_add, Nat.add_zero, Nat.reduceAdd, List.cons_append, List.nil_append, List.eraseIdx_cons_zero, List.eraseIdx_cons_succ])) | (refine LI_cond_fH rfl (by simp at hul; simp [hul]) ?_; intro hg)
    refine W ?_
    have e : i.toNat ≠ shK n := fun e => by rw [e, shK_has hn.1 hn.2] at hS; cases hS
    refine LIL_sub (L' := []) (List.nil_sublist _) ?_
    refine IH (j - 1) _ _ (by omega) ⟨i + 1, exJ rfl, rfl, by omega, by omega⟩
  · obtain ⟨l, el⟩ := hasS_yes hS
    rw [el] at hul
    first | (refine LS_gyH rfl (by simp at hul; simp [hul]) ?_; intro hg) | (refine LI_cond_tH rfl (by simp at hul; simp [hul]) ?_; intro hg)
    refine W ?_
    have e := shK_low hn.1 hn.2 hS
    refine RET fun h' HL => ?_
    try dsimp only [oneA]
    exact ⟨by rw [show ((shK n : Nat) : Int) = i by omega], HL.le⟩

def shOk (n : Int) : Bool := decide (1 ≤ n ∧ n ≤ 100)

def ssR (n : Int) : List Int := if shOk n = true then firstL n (shK n) else []

theorem implShort_ac (n : Int) (h : AH) : AC Try.prog 23 [.i .i64 n] h (fun r h' => ∃ M, TupI (ssR n) (shOk n) r M ∧ Loq h h' M) := by
  refine e23 _ fun wf => ?_
  unfold c23
  refine LI_start wf ?_
  refine W ?_
  refine LS_c0' (fun h' HL wf => isShort_ac n h') rfl rfl ?_
  try (dsimp only [st, setL, AV.cells, List.set_cons_zero, List.set_cons_succ, List.drop_zero, List.drop_succ_cons, List.take_zero, List.take_succ_cons, Nat.zero_add, Nat.add_zero, Nat.reduceAdd, List.cons_append, List.nil_append, List.eraseIdx_cons_zero, List.eraseIdx_cons_succ])
  refine W ?_
  (first | refine LS_gt rfl ?_ ?_ | refine LS_gf rfl ?_ ?_ | refine LI_cond rfl ?_ ?_) <;> intro hc <;> have hc' := hc <;> try simp only [decide_eq_true_eq, decide_eq_false_iff_not, Bool.not_eq_true', Bool.not_eq_false', Bool.not_eq_true, Bool.not_eq_false, beq_iff_eq, bne_iff_ne, beq_eq_false_iff_ne, bne_eq_false_iff_eq, Int.not_lt, Int.not_le, ge_iff_le, gt_iff_lt, not_and, ne_eq, Decidable.not_not] at hc'
  all_goals (try (dsimp only [st, setL, AV.cells, List.set_cons_zero, List.set_cons_succ, List.drop_zero, List.drop_succ_cons, List.take_zero, List.take_succ_cons, Nat.zero_add, Nat.add_zero, Nat.reduceAdd, List.cons_append, List.nil_append, List.eraseIdx_cons_zero, List.eraseIdx_cons_succ]))
  all_goals (refine W ?_)
  · have e : shOk n = false := nt hc
    rw [ssR, e, if_neg (by simp)]
    refine RET fun h' HL => ?_
    try dsimp only [oneA]
    exact TupI.none HL
  · have e : shOk n = true := nf hc
    have hn : 1 ≤ n ∧ n ≤ 100 := by simpa [shOk] using e
    rw [ssR, e, if_pos rfl]
    refine LS_co (fun h' HL wf => shortest_ac n h' hn) enI1 rfl rfl fun w lw sw => ?_
    try (dsimp only [st, setL, AV.cells, List.set_cons_zero, List.set_cons_succ, List.drop_zero, List.drop_succ_cons, List.take_zero, List.take_succ_cons, Nat.zero_add, Nat.add_zero, Nat.reduceAdd, List.cons_append, List.nil_append, List.eraseIdx_cons_zero, List.eraseIdx_cons_succ])
    refine W ?_
    refine RET fun h' HL => ?_
    try dsimp only [oneA]
    exact TupI.of (HL.ownI 0 rfl enI1 (by decide))

theorem specShort_ac (n : Int) (h : AH) : AC Try.prog 22 [.i .i64 n] h (fun r h' => ∃ M, TupI (ssR n) (shOk n) r M ∧ Loq h h' M) := by
  refine e22 _ fun wf => ?_
  unfold c22
  refine LI_start wf ?_
  refine W ?_
  refine LS_c0' (fun h' HL wf => shNumber_ac n h') rfl rfl ?_
  try (dsimp only [st, setL, AV.cells, List.set_cons_zero, List.set_cons_succ, List.drop_zero, List.drop_succ_cons, List.take_zero, List.take_succ_cons, Nat.zero_add, Nat.add_zero, Nat.reduceAdd, List.cons_append, List.nil_append, List.eraseIdx_cons_zero, List.eraseIdx_cons_succ])
  refine W ?_
  (first | refine LS_gt rfl ?_ ?_ | refine LS_gf rfl ?_ ?_ | refine LI_cond rfl ?_ ?_) <;> intro hc <;> have hc' := hc <;> try simp only [decide_eq_true_eq, decide_eq_false_iff_not, Bool.not_eq_true', Bool.not_eq_false', Bool.not_eq_true, Bool.not_eq_false, beq_iff_eq, bne_iff_ne, beq_eq_false_iff_ne, bne_eq_false_iff_eq, Int.not_lt, Int.not_le, ge_iff_le, gt_iff_lt, not_and, ne_eq, Decidable.not_not] at hc'
  all_goals (try (dsimp only [st, setL, AV.cells, List.set_cons_zero, List.set_cons_succ, List.drop_zero, List.drop_succ_cons, List.take_zero, List.take_succ_cons, Nat.zero_add, Nat.add_zero, Nat.reduceAdd, List.cons_append, List.nil_append, List.eraseIdx_cons_zero, List.eraseIdx_cons_succ]))
  all_goals (refine W ?_)
  · have e : shOk n = false := nt hc
    rw [ssR, e, if_neg (by simp)]
    refine RET fun h' HL => ?_
    try dsimp only [oneA]
    exact TupI.none HL
  · have e : shOk n = true := nf hc
    have hn : 1 ≤ n ∧ n ≤ 100 := by simpa [shOk] using e
    have hK := shK_ok hn.1 hn.2
    obtain ⟨l, el⟩ := hasS_yes (shK_has hn.1 hn.2)
    rw [ssR, e, if_pos rfl]
    refine LS_lt [1] rfl rfl (by decide) rfl rfl rfl rfl enI1 rfl rfl fun w1 lw1 sw1 => ?_
    try (dsimp only [st, setL, AV.cells, List.set_cons_zero, List.set_cons_succ, List.drop_zero, List.drop_succ_cons, List.take_zero, List.take_succ_cons, Nat.zero_add, Nat.add_zero, Nat.reduceAdd, List.cons_append, List.nil_append, List.eraseIdx_cons_zero, List.eraseIdx_cons_succ])
    refine W ?_
    refine LS_c0 (fun h' HL wf => shLength_ac n h' hn) rfl rfl ?_
    try (dsimp only [st, setL, AV.cells, List.set_cons_zero, List.set_cons_succ, List.drop_zero, List.drop_succ_cons, List.take_zero, List.take_succ_cons, Nat.zero_add, Nat.add_zero, Nat.reduceAdd, List.cons_append, List.nil_append, List.eraseIdx_cons_zero, List.eraseIdx_cons_succ])
    refine W ?_
    refine LS_c1 (fun h' HL wf => by have H := shSearch_ac n hn (shK n) [1] 1 w1 h' (by simp; omega) goodC_one (by simp [lastD]) (by omega) (HL.rdI 0 rfl enI1 (by decide)); exact H) rfl rfl ?_
    try (dsimp only [st, setL, AV.cells, List.set_cons_zero, List.set_cons_succ, List.drop_zero, List.drop_succ_cons, List.take_zero, List.take_succ_cons, Nat.zero_add, Nat.add_zero, Nat.reduceAdd, List.cons_append, List.nil_append, List.eraseIdx_cons_zero, List.eraseIdx_cons_succ])
    refine W ?_
    rintro r2 _ ⟨us, hul, l2, s2, rfl⟩
    unfold ssI
    try (dsimp only [st, setL, AV.cells, List.set_cons_zero, List.set_cons_succ, List.drop_zero, List.drop_succ_cons, List.take_zero, List.take_succ_cons, Nat.zero_add, Nat.add_zero, Nat.reduceAdd, List.cons_append, List.nil_append, List.eraseIdx_cons_zero, List.eraseIdx_cons_succ])
    refine W ?_
    rw [el] at hul ⊢
    obtain ⟨u, rfl⟩ : ∃ u, us = [u] := List.length_eq_one_iff.1 (by simpa using hul)
    refine LS_ix (fun h' HL => HL.rdI 0 rfl enV1 (by decide)) enV1 (y := u) rfl (by omega) rfl rfl fun q2 o2 hrow2 => ?_
    try (dsimp only [st, setL, AV.cells, List.set_cons_zero, List.set_cons_succ, List.drop_zero, List.drop_succ_cons, List.take_zero, List.take_succ_cons, Nat.zero_add, Nat.add_zero, Nat.reduceAdd, List.cons_append, List.nil_append, List.eraseIdx_cons_zero, List.eraseIdx_cons_succ])
    refine W ?_
    refine RET fun h' HL => ?_
    try dsimp only [oneA]
    exact TupI.of (HL.ownI 1 rfl enI1 (by decide))

theorem firstL_len {n : Int} {k : Nat} : (firstL n k).length ≤ k + 1 := by
  cases hS : hasS n k
  · rw [(hasS_no hS).2]; simp
  · obtain ⟨l, el⟩ := hasS_yes hS
    obtain ⟨t, e, h1, _⟩ := allS_out k [1] (firstL n k) (by rw [el]; simp)
    rw [e]; simp; omega

theorem ssR_len {n : Int} : (ssR n).length ≤ 1048576 := by
  unfold ssR
  split
  · rename_i e
    have hn : 1 ≤ n ∧ n ≤ 100 := by simpa [shOk] using e
    have := shK_ok hn.1 hn.2
    have := firstL_len (n := n) (k := shK n)
    omega
  · simp

def TupS (l : List (List Int)) (ok : Bool) (r : AV) (M : List It) : Prop := ∃ w us, r = .tup [w, .b ok] ∧ us.length = l.length ∧ lenA w = some us.length ∧ w.sc = true ∧ M = ssI w us l

theorem TupS.none {h0 h : AH} {L : List It} (H : Loq h0 h L) : ∃ M, TupS [] false (.tup [.ns, .b false]) M ∧ Loq h0 h M := ⟨_, ⟨.ns, [], rfl, rfl, rfl, rfl, rfl⟩, loq_ns (H.sub (List.nil_sublist _)) 1⟩

def cOkS (n len : Int) : Bool := decide (1 ≤ n ∧ n ≤ 100) && decide (0 ≤ len ∧ len ≤ 8)

theorem growB_8 : ∀ k : Nat, k ≤ 8 → growB k 1 ≤ 1000000 := by decide +kernel

theorem rep_getD (m i : Nat) : (List.replicate m (0 : Int)).getD i 0 = 0 := by
  simp only [List.getD, List.getElem?_replicate]
  split <;> rfl

/-! ### Counting -/
theorem foldU_wrap : ∀ (l : List (List Int)) (k : Int), 0 ≤ k → k + l.length ≤ 4611686018427387904 → foldU (fun (s : Int) _ => (IntKind.i64.wrap (s + 1), false)) k l = (k + l.length, false)
  | [], k, _, _ => by simp [foldU]
  | c :: cs, k, h0, h => by
    rw [foldU]
    simp only [Bool.false_eq_true, if_false]
    rw [List.length_cons] at h ⊢
    rw [IntWalk.i64_in (k + 1) ⟨by omega, by omega⟩, foldU_wrap cs (k + 1) (by omega) (by omega)]
    congr 1
    omega

theorem allS_bd {n : Int} {k : Nat} (hk : k ≤ 8) : ((allS n k [1]).length : Int) ≤ 1000000 := by
  have h1 := liveQ_cnt (n := n) (m := k) k [1] (List.replicate (k + 1) 0) goodC_one (by simp) (by simp)
  have h2 := liveQ_bd (n := n) k k [1] (List.replicate (k + 1) 0)
  have h3 := growB_8 k hk
  rw [rep_getD] at h1 h2
  rw [show ([1] : List Int).length = 1 from rfl] at h2
  omega

theorem count1_ac (b : Nat) (s : Int) (w : AV) (h0 h : AH) (Lr : List It) (HL : Loq h0 h (.pt b [.i .i64 s] :: Lr)) :
    AC Try.prog 79 [w, .p b 0] h (fun r h' => ∃ N, (r = .b false ∧ N = .pt b [.i .i64 (IntKind.i64.wrap (s + 1))] :: Lr) ∧ Loq h0 h' N) := by
  refine e79 _ _ fun wf => ?_
  unfold c79
  refine LI_startL HL ?_
  refine W ?_
  refine LS_arw rfl rfl rfl ?_
  try (dsimp only [st, setL, AV.cells, List.set_cons_zero, List.set_cons_succ, List.drop_zero, List.drop_succ_cons, List.take_zero, List.take_succ_cons, Nat.zero_add, Nat.add_zero, Nat.reduceAdd, List.cons_append, List.nil_append, List.eraseIdx_cons_zero, List.eraseIdx_cons_succ])
  refine W ?_
  refine RET fun h' HL => ?_
  try dsimp only [oneA]
  exact ⟨_, ⟨rfl, rfl⟩, HL⟩

theorem count_ac (n len : Int) (h : AH) : AC Try.prog 44 [.i .i64 n, .i .i64 len] h (fun r h' => r = .tup [.i .i64 (if cOkS n len = true then ((allS n len.toNat [1]).length : Int) else 0), .b (cOkS n len)] ∧ h.le h') := by
  by_cases hn : 1 ≤ n ∧ n ≤ 100
  · by_cases hk : 0 ≤ len ∧ len ≤ 8
    · have e : cOkS n len = true := by rw [cOkS, decide_eq_true hn, decide_eq_true hk]; rfl
      have hbd := allS_bd (n := n) (k := len.toNat) (by omega)
      rw [e, if_pos rfl]
      refine e44 _ _ fun wf => ?_
      unfold c44
      refine LI_start wf ?_
      refine W ?_
      refine LS_c0' (fun h' HL wf => isShort_ac n h') rfl rfl ?_
      try (dsimp only [st, setL, AV.cells, List.set_cons_zero, List.set_cons_succ, List.drop_zero, List.drop_succ_cons, List.take_zero, List.take_succ_cons, Nat.zero_add, Nat.add_zero, Nat.reduceAdd, List.cons_append, List.nil_append, List.eraseIdx_cons_zero, List.eraseIdx_cons_succ])
      refine W ?_
      first | (refine LS_gyH rfl (by simp [hn]) ?_; intro hg) | (refine LI_cond_tH rfl (by simp [hn]) ?_; intro hg)
      refine W ?_
      refine LS_c0' (fun h' HL wf => lengthOk_ac len h') rfl rfl ?_
      try (dsimp only [st, setL, AV.cells, List.set_cons_zero, List.set_cons_succ, List.drop_zero, List.drop_succ_cons, List.take_zero, List.take_succ_cons, Nat.zero_add, Nat.add_zero, Nat.reduceAdd, List.cons_append, List.nil_append, List.eraseIdx_cons_zero, List.eraseIdx_cons_succ])
      refine W ?_
      first | (refine LS_gtnH rfl (by simp [hn, hk]) ?_; intro hg; try (dsimp only [st, setL, AV.cells, List.set_cons_zero, List.set_cons_succ, List.drop_zero, List.drop_succ_cons, List.take_zero, List.take_succ_cons, Nat.zero_add, Nat.add_zero, Nat.reduceAdd, List.cons_append, List.nil_append, List.eraseIdx_cons_zero, List.eraseIdx_cons_succ])) | (refine LS_gfnH rfl (by simp [hn, hk]) ?_; intro hg; try (dsimp only [st, setL, AV.cells, List.set_cons_zero, List.set_cons_succ, List.drop_zero, List.drop_succ_cons, List.take_zero, List.take_succ_cons, Nat.zero_add, Nat.add_zero, Nat.reduceAdd, List.cons_append, List.nil_append, List.eraseIdx_cons_zero, List.eraseIdx_cons_succ])) | (refine LI_cond_fH rfl (by simp [hn, hk]) ?_; intro hg)
      refine W ?_
      refine LS_al rfl fun b3 => ?_
      try (dsimp only [st, setL, AV.cells, List.set_cons_zero, List.set_cons_succ, List.drop_zero, List.drop_succ_cons, List.take_zero, List.take_succ_cons, Nat.zero_add, Nat.add_zero, Nat.reduceAdd, List.cons_append, List.nil_append, List.eraseIdx_cons_zero, List.eraseIdx_cons_succ])
      refine W ?_
      refine LS_lt [1] rfl rfl (by decide) rfl rfl rfl rfl enI1 rfl rfl fun w2 lw2 sw2 => ?_
      try (dsimp only [st, setL, AV.cells, List.set_cons_zero, List.set_cons_succ, List.drop_zero, List.drop_succ_cons, List.take_zero, List.take_succ_cons, Nat.zero_add, Nat.add_zero, Nat.reduceAdd, List.cons_append, List.nil_append, List.eraseIdx_cons_zero, List.eraseIdx_cons_succ])
      refine W ?_
      refine LS_cm (.swap _ _ _) (fun h' HL wf => by have H := stars_ac n hn len.toNat (by omega) 79 [.p b3 0] (fun (s : Int) _ => (IntKind.i64.wrap (s + 1), false)) (fun s M => M = [.pt b3 [.i .i64 s]]) (fun _ => True) (fun _ _ _ _ => trivial) (fun s c w h0 h M Lr _ hRs HL hw hc => by subst hRs; exact (count1_ac b3 s w h0 h Lr HL).mono fun r h' ⟨N, ⟨e1, e2⟩, G⟩ => ⟨N, ⟨_, e1, rfl, e2⟩, G⟩) len.toNat [1] w2 0 h h' [.pt b3 [.i .i64 0]] [.sl w2 1 ([1].flatMap enI)] (by simp; omega) goodC_one (by simp [lastD]) trivial rfl HL (fun h2 HL2 => HL2.rdI 0 rfl enI1 (by decide)); rw [show ((len.toNat : Nat) : Int) = len by omega] at H; simp only [foldU_wrap (allS n len.toNat [1]) 0 (by omega) (by omega)] at H; exact H) rfl rfl ?_
      try (dsimp only [st, setL, AV.cells, List.set_cons_zero, List.set_cons_succ, List.drop_zero, List.drop_succ_cons, List.take_zero, List.take_succ_cons, Nat.zero_add, Nat.add_zero, Nat.reduceAdd, List.cons_append, List.nil_append, List.eraseIdx_cons_zero, List.eraseIdx_cons_succ])
      refine W ?_
      rintro _ _ ⟨_, rfl, rfl, rfl⟩
      try (dsimp only [st, setL, AV.cells, List.set_cons_zero, List.set_cons_succ, List.drop_zero, List.drop_succ_cons, List.take_zero, List.take_succ_cons, Nat.zero_add, Nat.add_zero, Nat.reduceAdd, List.cons_append, List.nil_append, List.eraseIdx_cons_zero, List.eraseIdx_cons_succ])
      refine W ?_
      refine RET fun h' HL => ?_
      try dsimp only [oneA]
      exact ⟨by rw [Int.zero_add], HL.le⟩
    · have e : cOkS n len = false := by rw [cOkS, decide_eq_false hk, Bool.and_false]
      rw [e, if_neg (by simp)]
      refine e44 _ _ fun wf => ?_
      unfold c44
      refine LI_start wf ?_
      refine W ?_
      refine LS_c0' (fun h' HL wf => isShort_ac n h') rfl rfl ?_
      try (dsimp only [st, setL, AV.cells, List.set_cons_zero, List.set_cons_succ, List.drop_zero, List.drop_succ_cons, List.take_zero, List.take_succ_cons, Nat.zero_add, Nat.add_zero, Nat.reduceAdd, List.cons_append, List.nil_append, List.eraseIdx_cons_zero, List.eraseIdx_cons_succ])
      refine W ?_
      first | (refine LS_gyH rfl (by simp [hn]) ?_; intro hg) | (refine LI_cond_tH rfl (by simp [hn]) ?_; intro hg)
      refine W ?_
      refine LS_c0' (fun h' HL wf => lengthOk_ac len h') rfl rfl ?_
      try (dsimp only [st, setL, AV.cells, List.set_cons_zero, List.set_cons_succ, List.drop_zero, List.drop_succ_cons, List.take_zero, List.take_succ_cons, Nat.zero_add, Nat.add_zero, Nat.reduceAdd, List.cons_append, List.nil_append, List.eraseIdx_cons_zero, List.eraseIdx_cons_succ])
      refine W ?_
      first | (refine LS_gyH rfl (by simp [hn, hk]) ?_; intro hg) | (refine LI_cond_tH rfl (by simp [hn, hk]) ?_; intro hg)
      refine W ?_
      refine RET fun h' HL => ?_
      try dsimp only [oneA]
      exact ⟨rfl, HL.le⟩
  · have e : cOkS n len = false := by rw [cOkS, decide_eq_false hn, Bool.false_and]
    rw [e, if_neg (by simp)]
    refine e44 _ _ fun wf => ?_
    unfold c44
    refine LI_start wf ?_
    refine W ?_
    refine LS_c0' (fun h' HL wf => isShort_ac n h') rfl rfl ?_
    try (dsimp only [st, setL, AV.cells, List.set_cons_zero, List.set_cons_succ, List.drop_zero, List.drop_succ_cons, List.take_zero, List.take_succ_cons, Nat.zero_add, Nat.add_zero, Nat.reduceAdd, List.cons_append, List.nil_append, List.eraseIdx_cons_zero, List.eraseIdx_cons_succ])
    refine W ?_
    first | (refine LS_gtnH rfl (by simp [hn]) ?_; intro hg; try (dsimp only [st, setL, AV.cells, List.set_cons_zero, List.set_cons_succ, List.drop_zero, List.drop_succ_cons, List.take_zero, List.take_succ_cons, Nat.zero_add, Nat.add_zero, Nat.reduceAdd, List.cons_append, List.nil_append, List.eraseIdx_cons_zero, List.eraseIdx_cons_succ])) | (refine LS_gfnH rfl (by simp [hn]) ?_; intro hg; try (dsimp only [st, setL, AV.cells, List.set_cons_zero, List.set_cons_succ, List.drop_zero, List.drop_succ_cons, List.take_zero, List.take_succ_cons, Nat.zero_add, Nat.add_zero, Nat.reduceAdd, List.cons_append, List.nil_append, List.eraseIdx_cons_zero, List.eraseIdx_cons_succ])) | (refine LI_cond_fH rfl (by simp [hn]) ?_; intro hg)
    refine W ?_
    refine RET fun h' HL => ?_
    try dsimp only [oneA]
    exact ⟨rfl, HL.le⟩

theorem starLen_ac (n : Int) (h : AH) : AC Try.prog 36 [.i .i64 n] h (fun r h' => r = .tup [.i .i64 (if shOk n = true then (shK n : Int) else 0), .b (shOk n)] ∧ h.le h') := by
  refine e36 _ fun wf => ?_
  unfold c36
  refine LI_start wf ?_
  refine W ?_
  refine LS_c0' (fun h' HL wf => isShort_ac n h') rfl rfl ?_
  try (dsimp only [st, setL, AV.cells, List.set_cons_zero, List.set_cons_succ, List.drop_zero, List.drop_succ_cons, List.take_zero, List.take_succ_cons, Nat.zero_add, Nat.add_zero, Nat.reduceAdd, List.cons_append, List.nil_append, List.eraseIdx_cons_zero, List.eraseIdx_cons_succ])
  refine W ?_
  (first | refine LS_gt rfl ?_ ?_ | refine LS_gf rfl ?_ ?_ | refine LI_cond rfl ?_ ?_) <;> intro hc <;> have hc' := hc <;> try simp only [decide_eq_true_eq, decide_eq_false_iff_not, Bool.not_eq_true', Bool.not_eq_false', Bool.not_eq_true, Bool.not_eq_false, beq_iff_eq, bne_iff_ne, beq_eq_false_iff_ne, bne_eq_false_iff_eq, Int.not_lt, Int.not_le, ge_iff_le, gt_iff_lt, not_and, ne_eq, Decidable.not_not] at hc'
  all_goals (try (dsimp only [st, setL, AV.cells, List.set_cons_zero, List.set_cons_succ, List.drop_zero, List.drop_succ_cons, List.take_zero, List.take_succ_cons, Nat.zero_add, Nat.add_zero, Nat.reduceAdd, List.cons_append, List.nil_append, List.eraseIdx_cons_zero, List.eraseIdx_cons_succ]))
  all_goals (refine W ?_)
  · have e : shOk n = false := nt hc
    rw [e, if_neg (by simp)]
    refine RET fun h' HL => ?_
    try dsimp only [oneA]
    exact ⟨rfl, HL.le⟩
  · have e : shOk n = true := nf hc
    have hn : 1 ≤ n ∧ n ≤ 100 := by simpa [shOk] using e
    have hK := shK_ok hn.1 hn.2
    rw [e, if_pos rfl]
    obtain ⟨l, el⟩ := hasS_yes (shK_has hn.1 hn.2)
    have hfl : (firstL n (shK n)).length = shK n + 1 := by
      obtain ⟨t, e, h1, _⟩ := allS_out (shK n) [1] (firstL n (shK n)) (by rw [el]; simp)
      rw [e]; simp; omega
    refine LS_co (fun h' HL wf => shortest_ac n h' hn) enI1 rfl rfl fun w lw sw => ?_
    try (dsimp only [st, setL, AV.cells, List.set_cons_zero, List.set_cons_succ, List.drop_zero, List.drop_succ_cons, List.take_zero, List.take_succ_cons, Nat.zero_add, Nat.add_zero, Nat.reduceAdd, List.cons_append, List.nil_append, List.eraseIdx_cons_zero, List.eraseIdx_cons_succ])
    refine W ?_
    refine RET fun h' HL => ?_
    try dsimp only [oneA]
    exact ⟨by rw [hfl, show ((shK n + 1 : Nat) : Int) - 1 = shK n by omega], HL.le⟩

/-! ### What is a star chain -/
def stepB (pre : List Int) (x : Int) : Bool := pre.any fun y => y == x - lastD pre

def chainA : List Int → List Int → Bool
  | _, [] => true
  | pre, x :: l => stepB pre x && chainA (pre ++ [x]) l

def impG : List Int → List Int → Bool
  | _, [] => true
  | pre, x :: l => (!decide (x ≤ lastD pre) && (!decide (x > 1000000) && stepB pre x)) && impG (pre ++ [x]) l

theorem stepB_mem {pre : List Int} {x : Int} : stepB pre x = true ↔ x - lastD pre ∈ pre := by
  simp only [stepB, List.any_eq_true, beq_iff_eq]
  exact ⟨fun ⟨y, hy, e⟩ => e ▸ hy, fun h => ⟨_, h, rfl⟩⟩

theorem chainA_B : ∀ (l pre : List Int), chainA pre l = chainB pre l
  | [], _ => rfl
  | x :: l, pre => by
    rw [chainA, chainB, chainA_B l]
    congr 1
    rw [Bool.eq_iff_iff, stepB_mem, List.contains_iff_mem]

theorem impG_eq : ∀ (l pre : List Int), goodC pre → impG pre l = (chainA pre l && l.all fun x => decide (1 ≤ x ∧ x ≤ 1000000))
  | [], _, _ => rfl
  | x :: l, pre, hg => by
    rw [impG, chainA, List.all_cons]
    cases hs : stepB pre x
    · simp
    · have hm := stepB_mem.1 hs
      have hb := hg.2 _ hm
      have hl := hg.last
      have hg' : goodC (pre ++ [x]) := by have := goodC_snoc hg hm; rwa [show lastD pre + (x - lastD pre) = x by omega] at this
      rw [impG_eq l _ hg', decide_eq_false (show ¬ x ≤ lastD pre by omega)]
      by_cases hx : x > 1000000
      · rw [decide_eq_true hx, decide_eq_false (show ¬ (1 ≤ x ∧ x ≤ 1000000) by omega)]; simp
      · rw [decide_eq_false hx, decide_eq_true (show 1 ≤ x ∧ x ≤ 1000000 by omega)]; simp

def starC (c : List Int) : Bool := decide ((c.length : Int) ≤ 41) && ((c.all fun x => decide (1 ≤ x ∧ x ≤ 1000000)) && (decide (c.head? = some 1) && chainA [1] (c.drop 1)))

def impC (c : List Int) : Bool := decide (1 ≤ (c.length : Int) ∧ (c.length : Int) ≤ 41) && (decide (c.head? = some 1) && impG [1] (c.drop 1))

theorem impC_eq (c : List Int) : impC c = starC c := by
  unfold impC starC
  cases c with
  | nil => simp
  | cons y l =>
    by_cases hy : y = 1
    · subst hy
      rw [List.drop_one, List.tail_cons, impG_eq l [1] goodC_one, List.all_cons]
      have e : decide (1 ≤ ((1 :: l : List Int).length : Int) ∧ ((1 :: l : List Int).length : Int) ≤ 41) = decide (((1 :: l : List Int).length : Int) ≤ 41) := decide_eq_decide.2 ⟨fun h => h.2, fun h => ⟨by rw [List.length_cons]; omega, h⟩⟩
      rw [e]
      simp
      cases chainA [1] l <;> simp
    · rw [List.head?_cons, decide_eq_false (show ¬ some y = some 1 by simpa using hy)]; simp

theorem starC_of {n : Int} {k : Nat} {c : List Int} (hk : k ≤ 12) (hn : n ≤ 100) (h : c ∈ allS n k [1]) : starC c = true ∧ c.length = k + 1 ∧ lastD c = n := by
  obtain ⟨t, rfl, h1, h2, h3⟩ := allS_out _ _ _ h
  have hall : ∀ (l pre : List Int), goodC pre → chainB pre l = true → lastD (pre ++ l) ≤ 100 → (l.all fun x => decide (1 ≤ x ∧ x ≤ 1000000)) = true := by
    intro l
    induction l with
    | nil => intros; rfl
    | cons x l ih =>
      intro pre hg hc hl
      simp only [chainB, Bool.and_eq_true, List.contains_iff_mem] at hc
      have hb := hg.2 _ hc.1
      have h0 := hg.last
      have hg' : goodC (pre ++ [x]) := by have := goodC_snoc hg hc.1; rwa [show lastD pre + (x - lastD pre) = x by omega] at this
      have hg2 : ∀ (l pre : List Int), goodC pre → chainB pre l = true → goodC (pre ++ l) ∧ lastD pre ≤ lastD (pre ++ l) := by
        intro l
        induction l with
        | nil => intro pre hg _; rw [List.append_nil]; exact ⟨hg, Int.le_refl _⟩
        | cons z l ih2 =>
          intro pre hg hc
          simp only [chainB, Bool.and_eq_true, List.contains_iff_mem] at hc
          have hb := hg.2 _ hc.1
          have hg' : goodC (pre ++ [z]) := by have := goodC_snoc hg hc.1; rwa [show lastD pre + (z - lastD pre) = z by omega] at this
          have := ih2 _ hg' hc.2
          rw [lastD_snoc] at this
          rw [show pre ++ z :: l = pre ++ [z] ++ l by simp]
          exact ⟨this.1, by omega⟩
      have h4 := (hg2 l _ hg' hc.2).2
      rw [lastD_snoc] at h4
      rw [show pre ++ x :: l = pre ++ [x] ++ l by simp] at hl
      rw [List.all_cons, ih _ hg' hc.2 hl, decide_eq_true (show 1 ≤ x ∧ x ≤ 1000000 by omega)]
      rfl
  refine ⟨?_, by simp; omega, h3⟩
  unfold starC
  rw [chainA_B]
  simp only [Bool.and_eq_true, decide_eq_true_eq, List.singleton_append, List.head?_cons, List.drop_one, List.tail_cons, List.all_cons, List.length_cons]
  exact ⟨by omega, ⟨by omega, hall t [1] goodC_one h2 (by omega)⟩, trivial, h2⟩

theorem lastD_take {c : List Int} {k : Nat} {y : Int} (hy : c[k]? = some y) : lastD (c.take (k + 1)) = y := by
  rw [take_snoc hy, lastD_snoc]

theorem implIs_ac (c : List Int) (v : AV) (h : AH) (hR : Rd h v c) (hl : c.length ≤ 1048576) (hb : ∀ x ∈ c, -1099511627776 ≤ x ∧ x ≤ 1099511627776) :
    AC Try.prog 33 [v] h (fun r h' => r = .b (starC c) ∧ h.le h') := by
  have hln := hR.len
  rw [← impC_eq]
  unfold impC
  refine e33 _ fun wf => ?_
  unfold c33
  refine LI_start wf ?_
  refine W ?_
  refine LS_c0' (fun h' HL wf => in_ac _ 1 41 h') rfl rfl ?_
  try (dsimp only [st, setL, AV.cells, List.set_cons_zero, List.set_cons_succ, List.drop_zero, List.drop_succ_cons, List.take_zero, List.take_succ_cons, Nat.zero_add, Nat.add_zero, Nat.reduceAdd, List.cons_append, List.nil_append, List.eraseIdx_cons_zero, List.eraseIdx_cons_succ])
  refine W ?_
  by_cases hle : 1 ≤ (c.length : Int) ∧ (c.length : Int) ≤ 41
  · rw [decide_eq_true hle, Bool.true_and]
    first | (refine LS_gyH rfl (rfl) ?_; intro hg) | (refine LI_cond_tH rfl (rfl) ?_; intro hg)
    refine W ?_
    obtain ⟨z, hz⟩ : ∃ z, c[(0 : Int).toNat]? = some z := ⟨_, List.getElem?_eq_getElem (by omega)⟩
    have hh : c.head? = some z := by rw [List.head?_eq_getElem?]; exact hz
    refine LS_ix (fun h' HL => hR.le HL.le) enI1 hz (by omega) rfl rfl fun b o hrow => ?_
    try (dsimp only [st, setL, AV.cells, List.set_cons_zero, List.set_cons_succ, List.drop_zero, List.drop_succ_cons, List.take_zero, List.take_succ_cons, Nat.zero_add, Nat.add_zero, Nat.reduceAdd, List.cons_append, List.nil_append, List.eraseIdx_cons_zero, List.eraseIdx_cons_succ])
    refine W ?_
    by_cases hz1 : z = 1
    · first | (refine LS_gtnH rfl (by simp [hz1]) ?_; intro hg; try (dsimp only [st, setL, AV.cells, List.set_cons_zero, List.set_cons_succ, List.drop_zero, List.drop_succ_cons, List.take_zero, List.take_succ_cons, Nat.zero_add, Nat.add_zero, Nat.reduceAdd, List.cons_append, List.nil_append, List.eraseIdx_cons_zero, List.eraseIdx_cons_succ])) | (refine LS_gfnH rfl (by simp [hz1]) ?_; intro hg; try (dsimp only [st, setL, AV.cells, List.set_cons_zero, List.set_cons_succ, List.drop_zero, List.drop_succ_cons, List.take_zero, List.take_succ_cons, Nat.zero_add, Nat.add_zero, Nat.reduceAdd, List.cons_append, List.nil_append, List.eraseIdx_cons_zero, List.eraseIdx_cons_succ])) | (refine LI_cond_fH rfl (by simp [hz1]) ?_; intro hg)
      refine W ?_
      subst hz1
      have hc1 : c.take 1 = [1] := by
        have := take_snoc (l := c) (i := 0) hz
        simpa using this
      rw [hh, decide_eq_true rfl, Bool.true_and]
      refine LIL_ind (fun j a L => ∃ (i : Int), (∃ r : Nat → AV, a = [v, r 1, r 2, .i .i64 i, r 4, r 5, r 6, r 7, r 8, r 9, r 10, r 11, r 12, r 13, r 14, r 15, r 16, r 17, r 18, r 19, r 20, r 21, r 22, r 23, r 24, r 25, r 26, r 27, r 28, r 29, r 30, r 31, r 32, r 33, r 34, r 35, r 36, r 37, r 38, r 39, r 40, r 41, r 42, r 43, r 44, r 45, r 46, r 47, r 48, r 49, r 50, r 51, r 52, r 53]) ∧ L = [] ∧ 1 ≤ i ∧ i + j = c.length ∧ impG [1] (c.drop 1) = impG (c.take i.toNat) (c.drop i.toNat))
        (c.length - 1) ⟨1, exJ rfl, rfl, by omega, by omega, by rw [show (1 : Int).toNat = 1 from rfl, hc1]⟩ ?_
      rintro j a _ ⟨i, ⟨r, rfl⟩, rfl, h0, hj, heq⟩ IH
      refine W ?_
      (first | refine LS_gt rfl ?_ ?_ | refine LS_gf rfl ?_ ?_ | refine LI_cond rfl ?_ ?_) <;> intro hc <;> have hc' := hc <;> try simp only [decide_eq_true_eq, decide_eq_false_iff_not, Bool.not_eq_true', Bool.not_eq_false', Bool.not_eq_true, Bool.not_eq_false, beq_iff_eq, bne_iff_ne, beq_eq_false_iff_ne, bne_eq_false_iff_eq, Int.not_lt, Int.not_le, ge_iff_le, gt_iff_lt, not_and, ne_eq, Decidable.not_not] at hc'
      all_goals (try (dsimp only [st, setL, AV.cells, List.set_cons_zero, List.set_cons_succ, List.drop_zero, List.drop_succ_cons, List.take_zero, List.take_succ_cons, Nat.zero_add, Nat.add_zero, Nat.reduceAdd, List.cons_append, List.nil_append, List.eraseIdx_cons_zero, List.eraseIdx_cons_succ]))
      all_goals (refine W ?_)
      · obtain ⟨x, hx, hxm, hd⟩ := drop_at (l := c) (by omega) hc'
        obtain ⟨y, hy⟩ : ∃ y, c[(i - 1).toNat]? = some y := ⟨_, List.getElem?_eq_getElem (by omega)⟩
        have hxb := hb x hxm
        have hyb := hb y (List.mem_of_getElem? hy)
        have hly : lastD (c.take i.toNat) = y := by rw [show i.toNat = (i - 1).toNat + 1 by omega]; exact lastD_take hy
        rw [hd, impG, ← take_snoc hx, stepB, hly] at heq
        cases g1 : decide (x ≤ y)
        · cases g2 : decide (x > 1000000)
          · rw [g1, g2, Bool.not_false, Bool.true_and, Bool.true_and] at heq
            refine dz33_0 ?_
            refine WX ?_
            refine W ?_
            refine LX_ix (fun h' HL => hR.le HL.le) enI1 hx (by omega) rfl rfl noG fun q1 o1 hrow1 => ?_
            try (dsimp only [st, setL, AV.cells, List.set_cons_zero, List.set_cons_succ, List.drop_zero, List.drop_succ_cons, List.take_zero, List.take_succ_cons, Nat.zero_add, Nat.add_zero, Nat.reduceAdd, List.cons_append, List.nil_append, List.eraseIdx_cons_zero, List.eraseIdx_cons_succ])
            refine WX ?_
            refine W ?_
            refine LX_ix (fun h' HL => hR.le HL.le) enI1 hy (by omega) rfl rfl noG fun q2 o2 hrow2 => ?_
            try (dsimp only [st, setL, AV.cells, List.set_cons_zero, List.set_cons_succ, List.drop_zero, List.drop_succ_cons, List.take_zero, List.take_succ_cons, Nat.zero_add, Nat.add_zero, Nat.reduceAdd, List.cons_append, List.nil_append, List.eraseIdx_cons_zero, List.eraseIdx_cons_succ])
            refine WX ?_
            refine W ?_
            refine LX_ix (fun h' HL => hR.le HL.le) enI1 hx (by omega) rfl rfl (isG' rfl g1) fun q3 o3 hrow3 => ?_
            try (dsimp only [st, setL, AV.cells, List.set_cons_zero, List.set_cons_succ, List.drop_zero, List.drop_succ_cons, List.take_zero, List.take_succ_cons, Nat.zero_add, Nat.add_zero, Nat.reduceAdd, List.cons_append, List.nil_append, List.eraseIdx_cons_zero, List.eraseIdx_cons_succ])
            refine WX ?_
            refine W ?_
            refine LX_sz (ll := c) (fun h' HL => hR.le HL.le) enI1 (.inl ⟨rfl, rfl⟩) (.inr ⟨_, .i64, i, rfl, rfl, by omega, rfl⟩) (by omega) (by omega) rfl (isG' rfl g2) fun wz lwz swz hRz => ?_
            try (dsimp only [st, setL, AV.cells, List.set_cons_zero, List.set_cons_succ, List.drop_zero, List.drop_succ_cons, List.take_zero, List.take_succ_cons, Nat.zero_add, Nat.add_zero, Nat.reduceAdd, List.cons_append, List.nil_append, List.eraseIdx_cons_zero, List.eraseIdx_cons_succ])
            refine WX ?_
            refine W ?_
            refine LX_ix (fun h' HL => hR.le HL.le) enI1 hx (by omega) rfl rfl (isG' rfl g2) fun q4 o4 hrow4 => ?_
            try (dsimp only [st, setL, AV.cells, List.set_cons_zero, List.set_cons_succ, List.drop_zero, List.drop_succ_cons, List.take_zero, List.take_succ_cons, Nat.zero_add, Nat.add_zero, Nat.reduceAdd, List.cons_append, List.nil_append, List.eraseIdx_cons_zero, List.eraseIdx_cons_succ])
            refine WX ?_
            refine W ?_
            refine LX_ix (fun h' HL => hR.le HL.le) enI1 hy (by omega) rfl rfl (isG' rfl g2) fun q5 o5 hrow5 => ?_
            try (dsimp only [st, setL, AV.cells, List.set_cons_zero, List.set_cons_succ, List.drop_zero, List.drop_succ_cons, List.take_zero, List.take_succ_cons, Nat.zero_add, Nat.add_zero, Nat.reduceAdd, List.cons_append, List.nil_append, List.eraseIdx_cons_zero, List.eraseIdx_cons_succ])
            refine WX ?_
            refine W ?_
            refine LX_c0 (fun h' HL wf => Contains_ac ((c.take i.toNat).drop 0) wz (x - y) h'.frz (hRz _ (hR.le HL.le)).frz (by simp; omega)) rfl rfl (isG' rfl g2) ?_
            try (dsimp only [st, setL, AV.cells, List.set_cons_zero, List.set_cons_succ, List.drop_zero, List.drop_succ_cons, List.take_zero, List.take_succ_cons, Nat.zero_add, Nat.add_zero, Nat.reduceAdd, List.cons_append, List.nil_append, List.eraseIdx_cons_zero, List.eraseIdx_cons_succ])
            refine WX ?_
            refine W ?_
            rw [List.drop_zero]
            (first | refine LS_gt rfl ?_ ?_ | refine LS_gf rfl ?_ ?_ | refine LI_cond rfl ?_ ?_) <;> intro hc <;> have hc' := hc <;> try simp only [decide_eq_true_eq, decide_eq_false_iff_not, Bool.not_eq_true', Bool.not_eq_false', Bool.not_eq_true, Bool.not_eq_false, beq_iff_eq, bne_iff_ne, beq_eq_false_iff_ne, bne_eq_false_iff_eq, Int.not_lt, Int.not_le, ge_iff_le, gt_iff_lt, not_and, ne_eq, Decidable.not_not] at hc'
            all_goals (try (dsimp only [st, setL, AV.cells, List.set_cons_zero, List.set_cons_succ, List.drop_zero, List.drop_succ_cons, List.take_zero, List.take_succ_cons, Nat.zero_add, Nat.add_zero, Nat.reduceAdd, List.cons_append, List.nil_append, List.eraseIdx_cons_zero, List.eraseIdx_cons_succ]))
            all_goals (refine W ?_)
            · rw [heq, nt hc, Bool.false_and]
              refine RET fun h' HL => ?_
              try dsimp only [oneA]
              exact ⟨rfl, HL.le⟩
            · refine IH (j - 1) _ _ (by omega) ⟨i + 1, exJ rfl, rfl, by omega, by omega, by rw [heq, nf hc, Bool.true_and, toNat_succ (by omega)]⟩
          · rw [g1, g2, Bool.not_false, Bool.true_and, Bool.not_true, Bool.false_and, Bool.false_and] at heq
            rw [heq]
            refine dz33_0 ?_
            refine WX ?_
            refine W ?_
            refine LX_ix (fun h' HL => hR.le HL.le) enI1 hx (by omega) rfl rfl noG fun q1 o1 hrow1 => ?_
            try (dsimp only [st, setL, AV.cells, List.set_cons_zero, List.set_cons_succ, List.drop_zero, List.drop_succ_cons, List.take_zero, List.take_succ_cons, Nat.zero_add, Nat.add_zero, Nat.reduceAdd, List.cons_append, List.nil_append, List.eraseIdx_cons_zero, List.eraseIdx_cons_succ])
            refine WX ?_
            refine W ?_
            refine LX_ix (fun h' HL => hR.le HL.le) enI1 hy (by omega) rfl rfl noG fun q2 o2 hrow2 => ?_
            try (dsimp only [st, setL, AV.cells, List.set_cons_zero, List.set_cons_succ, List.drop_zero, List.drop_succ_cons, List.take_zero, List.take_succ_cons, Nat.zero_add, Nat.add_zero, Nat.reduceAdd, List.cons_append, List.nil_append, List.eraseIdx_cons_zero, List.eraseIdx_cons_succ])
            refine WX ?_
            refine W ?_
            refine LX_ix (fun h' HL => hR.le HL.le) enI1 hx (by omega) rfl rfl (isG' rfl g1) fun q3 o3 hrow3 => ?_
            try (dsimp only [st, setL, AV.cells, List.set_cons_zero, List.set_cons_succ, List.drop_zero, List.drop_succ_cons, List.take_zero, List.take_succ_cons, Nat.zero_add, Nat.add_zero, Nat.reduceAdd, List.cons_append, List.nil_append, List.eraseIdx_cons_zero, List.eraseIdx_cons_succ])
            refine WX ?_
            refine W ?_
            refine RET fun h' HL => ?_
            try dsimp only [oneA]
            exact ⟨rfl, HL.le⟩
        · rw [g1, Bool.not_true, Bool.false_and, Bool.false_and] at heq
          rw [heq]
          refine dz33_0 ?_
          refine WX ?_
          refine W ?_
          refine LX_ix (fun h' HL => hR.le HL.le) enI1 hx (by omega) rfl rfl noG fun q1 o1 hrow1 => ?_
          try (dsimp only [st, setL, AV.cells, List.set_cons_zero, List.set_cons_succ, List.drop_zero, List.drop_succ_cons, List.take_zero, List.take_succ_cons, Nat.zero_add, Nat.add_zero, Nat.reduceAdd, List.cons_append, List.nil_append, List.eraseIdx_cons_zero, List.eraseIdx_cons_succ])
          refine WX ?_
          refine W ?_
          refine LX_ix (fun h' HL => hR.le HL.le) enI1 hy (by omega) rfl rfl noG fun q2 o2 hrow2 => ?_
          try (dsimp only [st, setL, AV.cells, List.set_cons_zero, List.set_cons_succ, List.drop_zero, List.drop_succ_cons, List.take_zero, List.take_succ_cons, Nat.zero_add, Nat.add_zero, Nat.reduceAdd, List.cons_append, List.nil_append, List.eraseIdx_cons_zero, List.eraseIdx_cons_succ])
          refine WX ?_
          refine W ?_
          refine RET fun h' HL => ?_
          try dsimp only [oneA]
          exact ⟨rfl, HL.le⟩
      · rw [heq, List.drop_eq_nil_of_le (by omega), impG]
        refine RET fun h' HL => ?_
        try dsimp only [oneA]
        exact ⟨rfl, HL.le⟩
    · first | (refine LS_gyH rfl (by simp [hz1]) ?_; intro hg) | (refine LI_cond_tH rfl (by simp [hz1]) ?_; intro hg)
      refine W ?_
      rw [hh, decide_eq_false (show ¬ some z = some 1 by simpa using hz1), Bool.false_and]
      refine RET fun h' HL => ?_
      try dsimp only [oneA]
      exact ⟨rfl, HL.le⟩
  · rw [decide_eq_false hle, Bool.false_and]
    refine W ?_
    refine RET fun h' HL => ?_
    try dsimp only [oneA]
    exact ⟨rfl, HL.le⟩

/-! ### What is drawn for stars -/
theorem short_ac (bc : Nat) (cv : AV) (l : List Int) (ct sd : Int) (h0 h : AH) (L : List It) (HL : Loq h0 h (.pt bc [cv, .i .i64 ct, .i .u64 sd] :: L)) (hcv : RdG 1 enU h0 cv l) (hb : ∀ x ∈ l, 0 ≤ x ∧ x ≤ 255) (h1 : 0 ≤ ct) (h2 : ct ≤ 549745813888) :
    AC Try.prog 95 [.p bc 0] h (fun r h' => ∃ M, (∃ x ct' sd', r = .i .i64 x ∧ (-1 ≤ x ∧ x ≤ 101) ∧ (ct ≤ ct' ∧ ct' ≤ ct + 6) ∧ M = .pt bc [cv, .i .i64 ct', .i .u64 sd'] :: L) ∧ Loq h0 h' M) := by
  refine e95 _ fun wf => ?_
  unfold c95
  refine LI_startL HL ?_
  refine W ?_
  refine LS_cm (.refl _) (fun h' HL wf => one_ac 12 _ _ _ _ _ _ h' _ HL  hcv hb (by omega) (by omega)) rfl rfl ?_
  rintro _ _ ⟨x, ct1, sd1, rfl, hx, hct1, rfl⟩
  try (dsimp only [st, setL, AV.cells, List.set_cons_zero, List.set_cons_succ, List.drop_zero, List.drop_succ_cons, List.take_zero, List.take_succ_cons, Nat.zero_add, Nat.add_zero, Nat.reduceAdd, List.cons_append, List.nil_append, List.eraseIdx_cons_zero, List.eraseIdx_cons_succ])
  refine W ?_
  cases x
  · first | (refine LS_gtnH rfl (rfl) ?_; intro hg; try (dsimp only [st, setL, AV.cells, List.set_cons_zero, List.set_cons_succ, List.drop_zero, List.drop_succ_cons, List.take_zero, List.take_succ_cons, Nat.zero_add, Nat.add_zero, Nat.reduceAdd, List.cons_append, List.nil_append, List.eraseIdx_cons_zero, List.eraseIdx_cons_succ])) | (refine LS_gfnH rfl (rfl) ?_; intro hg; try (dsimp only [st, setL, AV.cells, List.set_cons_zero, List.set_cons_succ, List.drop_zero, List.drop_succ_cons, List.take_zero, List.take_succ_cons, Nat.zero_add, Nat.add_zero, Nat.reduceAdd, List.cons_append, List.nil_append, List.eraseIdx_cons_zero, List.eraseIdx_cons_succ])) | (refine LI_cond_fH rfl (rfl) ?_; intro hg)
    refine W ?_
    refine LS_lt [12, 40, 100] rfl rfl (by decide) rfl rfl rfl rfl enI1 rfl rfl fun w lw sw => ?_
    try (dsimp only [st, setL, AV.cells, List.set_cons_zero, List.set_cons_succ, List.drop_zero, List.drop_succ_cons, List.take_zero, List.take_succ_cons, Nat.zero_add, Nat.add_zero, Nat.reduceAdd, List.cons_append, List.nil_append, List.eraseIdx_cons_zero, List.eraseIdx_cons_succ])
    refine W ?_
    refine LS_rot 1 rfl ?_
    refine LS_cm (.refl _) (fun h' HL wf => among_ac [12, 40, 100] w _ _ _ _ _ _ h' _ HL (fun h' HL => HL.rdI 0 rfl enI1 (by decide)) (by decide) hcv hb (by omega) (by omega)) rfl rfl ?_
    rintro _ _ ⟨x, ct2, sd2, rfl, hx, hct2, rfl⟩
    try (dsimp only [st, setL, AV.cells, List.set_cons_zero, List.set_cons_succ, List.drop_zero, List.drop_succ_cons, List.take_zero, List.take_succ_cons, Nat.zero_add, Nat.add_zero, Nat.reduceAdd, List.cons_append, List.nil_append, List.eraseIdx_cons_zero, List.eraseIdx_cons_succ])
    refine W ?_
    have : x = 12 ∨ x = 40 ∨ x = 100 := by simpa using hx
    refine LS_cm (.refl _) (fun h' HL wf => pick_ac x _ _ _ _ _ _ h' _ HL  hcv hb (by omega) (by omega)) rfl rfl ?_
    rintro _ _ ⟨y, ct3, sd3, rfl, hy, hct3, rfl⟩
    try (dsimp only [st, setL, AV.cells, List.set_cons_zero, List.set_cons_succ, List.drop_zero, List.drop_succ_cons, List.take_zero, List.take_succ_cons, Nat.zero_add, Nat.add_zero, Nat.reduceAdd, List.cons_append, List.nil_append, List.eraseIdx_cons_zero, List.eraseIdx_cons_succ])
    refine W ?_
    refine RET fun h' HL => ?_
    try dsimp only [oneA]
    exact ⟨_, ⟨_, ct3, sd3, rfl, by omega, by omega, rfl⟩, HL.sub (by simp)⟩
  · first | (refine LS_gyH rfl (rfl) ?_; intro hg) | (refine LI_cond_tH rfl (rfl) ?_; intro hg)
    refine W ?_
    refine LS_lt [0, -1, 100, 101] rfl rfl (by decide) rfl rfl rfl rfl enI1 rfl rfl fun w lw sw => ?_
    try (dsimp only [st, setL, AV.cells, List.set_cons_zero, List.set_cons_succ, List.drop_zero, List.drop_succ_cons, List.take_zero, List.take_succ_cons, Nat.zero_add, Nat.add_zero, Nat.reduceAdd, List.cons_append, List.nil_append, List.eraseIdx_cons_zero, List.eraseIdx_cons_succ])
    refine W ?_
    refine LS_rot 1 rfl ?_
    refine LS_cm (.refl _) (fun h' HL wf => among_ac [0, -1, 100, 101] w _ _ _ _ _ _ h' _ HL (fun h' HL => HL.rdI 0 rfl enI1 (by decide)) (by decide) hcv hb (by omega) (by omega)) rfl rfl ?_
    rintro _ _ ⟨x, ct2, sd2, rfl, hx, hct2, rfl⟩
    try (dsimp only [st, setL, AV.cells, List.set_cons_zero, List.set_cons_succ, List.drop_zero, List.drop_succ_cons, List.take_zero, List.take_succ_cons, Nat.zero_add, Nat.add_zero, Nat.reduceAdd, List.cons_append, List.nil_append, List.eraseIdx_cons_zero, List.eraseIdx_cons_succ])
    refine W ?_
    have : x = 0 ∨ x = -1 ∨ x = 100 ∨ x = 101 := by simpa using hx
    refine RET fun h' HL => ?_
    try dsimp only [oneA]
    exact ⟨_, ⟨_, ct2, sd2, rfl, by omega, by omega, rfl⟩, HL.sub (by simp)⟩

theorem DrawStarLength_ac (c1 : List Int) (v1 : AV) (h : AH) (hcv : RdG 1 enU h v1 c1) (hb : ∀ x ∈ c1, 0 ≤ x ∧ x ≤ 255) :
    AC Try.prog 78 [v1] h (fun r h' => (∃ x, r = .i .i64 x ∧ (-1 ≤ x ∧ x ≤ 101)) ∧ h.le h') := by
  refine e78 _ fun wf => ?_
  unfold c78
  refine LI_start wf ?_
  refine W ?_
  refine LS_bxn rfl (sc_cons (rd_sc hcv) rfl) fun bc => ?_
  try (dsimp only [st, setL, AV.cells, List.set_cons_zero, List.set_cons_succ, List.drop_zero, List.drop_succ_cons, List.take_zero, List.take_succ_cons, Nat.zero_add, Nat.add_zero, Nat.reduceAdd, List.cons_append, List.nil_append, List.eraseIdx_cons_zero, List.eraseIdx_cons_succ])
  refine W ?_
  refine LS_cm (.refl _) (fun h' HL wf => short_ac _ _ _ _ _ _ h' _ HL  hcv hb (by omega) (by omega)) rfl rfl ?_
  rintro _ _ ⟨x, ct1, sd1, rfl, hx, hct1, rfl⟩
  try (dsimp only [st, setL, AV.cells, List.set_cons_zero, List.set_cons_succ, List.drop_zero, List.drop_succ_cons, List.take_zero, List.take_succ_cons, Nat.zero_add, Nat.add_zero, Nat.reduceAdd, List.cons_append, List.nil_append, List.eraseIdx_cons_zero, List.eraseIdx_cons_succ])
  refine W ?_
  refine RET fun h' HL => ?_
  try dsimp only [oneA]
  exact ⟨⟨x, rfl, hx⟩, HL.le⟩

theorem DrawShortestStar_ac (c1 : List Int) (v1 : AV) (h : AH) (hcv : RdG 1 enU h v1 c1) (hb : ∀ x ∈ c1, 0 ≤ x ∧ x ≤ 255) :
    AC Try.prog 48 [v1] h (fun r h' => (∃ x, r = .i .i64 x ∧ (-1 ≤ x ∧ x ≤ 101)) ∧ h.le h') := by
  refine e48 _ fun wf => ?_
  unfold c48
  refine LI_start wf ?_
  refine W ?_
  refine LS_cq (fun h' HL wf => DrawStarLength_ac c1 v1 h' (hcv.le HL.le) hb) rfl rfl ?_
  try (dsimp only [st, setL, AV.cells, List.set_cons_zero, List.set_cons_succ, List.drop_zero, List.drop_succ_cons, List.take_zero, List.take_succ_cons, Nat.zero_add, Nat.add_zero, Nat.reduceAdd, List.cons_append, List.nil_append, List.eraseIdx_cons_zero, List.eraseIdx_cons_succ])
  refine W ?_
  rintro _ ⟨x, rfl, hx⟩
  try (dsimp only [st, setL, AV.cells, List.set_cons_zero, List.set_cons_succ, List.drop_zero, List.drop_succ_cons, List.take_zero, List.take_succ_cons, Nat.zero_add, Nat.add_zero, Nat.reduceAdd, List.cons_append, List.nil_append, List.eraseIdx_cons_zero, List.eraseIdx_cons_succ])
  refine W ?_
  refine RET fun h' HL => ?_
  try dsimp only [oneA]
  exact ⟨⟨x, rfl, hx⟩, HL.le⟩

theorem lastD_idx {c : List Int} {k : Nat} {n : Int} (hc : c.length = k + 1) (hl : lastD c = n) : c[k]? = some n := by
  have : k = c.length - 1 := by omega
  subst this
  rw [← List.getLast?_eq_getElem?, ← hl, lastD]
  cases c with
  | nil => simp at hc
  | cons x l => simp [List.getLastD, List.getLast?]

theorem first_ok {n : Int} {k : Nat} (hk : k ≤ 12) (hn : n ≤ 100) (h : hasS n k = true) : starC (firstL n k) = true ∧ (firstL n k).length = k + 1 ∧ (firstL n k)[k]? = some n ∧ ∀ x ∈ firstL n k, 1 ≤ x ∧ x ≤ 1000000 := by
  obtain ⟨l, el⟩ := hasS_yes h
  obtain ⟨h1, h2, h3⟩ := starC_of hk hn (show firstL n k ∈ allS n k [1] by rw [el]; simp)
  refine ⟨h1, h2, ?_, fun x hx => ?_⟩
  · exact lastD_idx h2 h3
  · simp only [starC, Bool.and_eq_true, List.all_eq_true, decide_eq_true_eq] at h1
    exact h1.2.1 x hx

theorem sl_of_len {w : AV} {n : Nat} (h : lenA w = some n) (h0 : 0 < n) : ∃ b o c, w = .sl b o n c := by
  cases w <;> simp [lenA] at h
  · subst h; exact ⟨_, _, _, rfl⟩
  · omega

def chB (lo m : Int) (c : List Int) : Prop := ∀ x ∈ c, lo ≤ x ∧ x ≤ m

theorem chB.snoc {lo m m' : Int} {c : List Int} {x : Int} (h : chB lo m c) (hm : m ≤ m') (h0 : lo ≤ x) (h1 : x ≤ m') : chB lo m' (c ++ [x]) := by
  intro y hy
  rcases List.mem_append.1 hy with hy | hy
  · have := h y hy; omega
  · rw [List.mem_singleton.1 hy]; omega

theorem chB.mono {lo m lo' m' : Int} {c : List Int} (h : chB lo m c) (h0 : lo' ≤ lo) (h1 : m ≤ m') : chB lo' m' c := fun x hx => by have := h x hx; omega

theorem chB.set {lo m : Int} {c : List Int} {z : Int} (h : chB lo m c) (i : Nat) (h0 : lo ≤ z) (h1 : z ≤ m) : chB lo m (c.set i z) := fun x hx => by
  rcases List.mem_or_eq_of_mem_set hx with hx | rfl
  · exact h x hx
  · exact ⟨h0, h1⟩

theorem chain_last {c : List Int} (h : starC c = true) : ∃ k, c.length = k + 1 ∧ c[k]? = some (lastD c) ∧ c ∈ allS (lastD c) k [1] := by
  simp only [starC, Bool.and_eq_true, decide_eq_true_eq] at h
  obtain ⟨_, _, h3, h4⟩ := h
  cases c with
  | nil => simp at h3
  | cons x t =>
    rw [List.head?_cons] at h3
    cases h3
    rw [List.drop_one, List.tail_cons, chainA_B] at h4
    exact ⟨t.length, rfl, lastD_idx rfl rfl, allS_mem t [1] h4 rfl⟩

/-! ### The power tree: the program's walk -/
def zipE (ws : List (Int × List Int)) (us : List AV) : List (Int × AV) := List.zip (ws.map (·.1)) us

theorem findE : ∀ {ws : List (Int × List Int)} {us : List AV} (k : Int), us.length = ws.length → (findI k (zipE ws us) = none ∧ ws.find? (fun e => e.1 == k) = none) ∨ ∃ (i : Nat) (u : AV) (p : Int × List Int), us[i]? = some u ∧ ws[i]? = some p ∧ findI k (zipE ws us) = some u ∧ ws.find? (fun e => e.1 == k) = some p
  | [], [], k, _ => .inl ⟨rfl, rfl⟩
  | p :: ws, u :: us, k, h => by
    simp only [zipE, List.map_cons, List.zip_cons_cons, findI, List.find?_cons]
    by_cases hk : p.1 = k
    · exact .inr ⟨0, u, p, rfl, rfl, by rw [if_pos hk], by simp [hk]⟩
    · have hb : (p.1 == k) = false := by simpa using hk
      rw [if_neg hk, hb]
      rcases findE (ws := ws) (us := us) k (by simpa using h) with ⟨h1, h2⟩ | ⟨i, u', p', h1, h2, h3, h4⟩
      · exact .inl ⟨h1, h2⟩
      · exact .inr ⟨i + 1, u', p', by simpa using h1, by simpa using h2, h3, h4⟩
  | [], _ :: _, _, h => by simp at h
  | _ :: _, [], _, h => by simp at h

theorem putI_none {k : Int} {v : AV} : ∀ {es : List (Int × AV)}, findI k es = none → putI k v es = es ++ [(k, v)]
  | [], _ => rfl
  | x :: es, h => by
    rw [findI] at h
    by_cases hk : x.1 = k
    · rw [if_pos hk] at h; cases h
    · rw [if_neg hk] at h
      rw [putI, if_neg hk, putI_none h]; rfl

theorem putE {ws : List (Int × List Int)} {us : List AV} {k : Int} {v : AV} {l : List Int} (hl : us.length = ws.length) (h : findI k (zipE ws us) = none) : putI k v (zipE ws us) = zipE (ws ++ [(k, l)]) (us ++ [v]) := by
  rw [putI_none h]
  simp only [zipE, List.map_append, List.map_cons, List.map_nil]
  rw [List.zip_append (by simp [hl])]
  rfl

structure TS (ws0 : List (Int × List Int)) (s : List Int × List (Int × List Int)) (B : Nat) : Prop where
  nl : s.1.length ≤ B
  nb : ∀ n ∈ s.1, 0 ≤ n ∧ n ≤ 256
  pre : ∃ t, s.2 = ws0 ++ t
  wb : ∀ p ∈ s.2, 1 ≤ p.2.length ∧ p.2.length ≤ 14 ∧ ∀ x ∈ p.2, 0 ≤ x ∧ x ≤ 256

theorem TS.step {ws0 : List (Int × List Int)} {s : List Int × List (Int × List Int)} {B : Nat} {m x : Int} {way : List Int} (H : TS ws0 s B) (hm : 0 ≤ m ∧ m ≤ 256) (hx : 0 ≤ x ∧ x ≤ 256) (hw : way.length ≤ 13 ∧ ∀ x ∈ way, 0 ≤ x ∧ x ≤ 256) :
    TS ws0 (wayA 256 m way s x) (B + 1) := by
  unfold wayA
  split
  · rename_i hc
    refine ⟨by have := H.nl; simp; omega, ?_, ?_, ?_⟩
    · intro n hn
      rcases List.mem_append.1 hn with hn | hn
      · exact H.nb n hn
      · rw [List.mem_singleton.1 hn]; omega
    · obtain ⟨t, ht⟩ := H.pre
      exact ⟨t ++ [(m + x, way ++ [m + x])], by rw [ht, List.append_assoc]⟩
    · intro p hp
      rcases List.mem_append.1 hp with hp | hp
      · exact H.wb p hp
      · rw [List.mem_singleton.1 hp]
        refine ⟨by simp, by simp; omega, fun y hy => ?_⟩
        rcases List.mem_append.1 hy with hy | hy
        · exact hw.2 y hy
        · rw [List.mem_singleton.1 hy]; omega
  · exact ⟨by have := H.nl; omega, H.nb, H.pre, H.wb⟩

theorem TS.mono {ws0 : List (Int × List Int)} {s : List Int × List (Int × List Int)} {B B' : Nat} (H : TS ws0 s B) (h : B ≤ B') : TS ws0 s B' := ⟨Nat.le_trans H.nl h, H.nb, H.pre, H.wb⟩

theorem find_pre {ws0 t : List (Int × List Int)} {m : Int} {p : Int × List Int} (h : ws0.find? (fun e => e.1 == m) = some p) : (ws0 ++ t).find? (fun e => e.1 == m) = some p := by
  rw [List.find?_append, h]; rfl

def wayF (most : Int) (s : List Int × List (Int × List Int)) (m : Int) : List Int × List (Int × List Int) := (wayOf s.2 m).foldl (wayA most m (wayOf s.2 m)) s

theorem treeW_ok : ∀ p ∈ treeW, 1 ≤ p.2.length ∧ p.2.length ≤ 13 ∧ ∀ x ∈ p.2, 0 ≤ x ∧ x ≤ 256 := by decide +kernel

theorem treeL_key : ∀ k : Nat, k < 12 → ∀ m ∈ (treeL k).map (·.1), ((treeW.take (treeN k)).find? (fun e => e.1 == m)).isSome = true ∧ 0 ≤ m ∧ m ≤ 256 := by decide +kernel

theorem treeL_len : ∀ k : Nat, k < 13 → (treeL k).length ≤ 256 := by decide +kernel

theorem treeW_len : treeW.length = 256 := by decide +kernel

theorem treeN_bd : ∀ k : Nat, k < 13 → treeN k ≤ 256 := by decide

theorem treeP_w (k : Nat) (hk : k < 12) : ((treeL k).map (·.1)).foldl (wayF 256) ([], treeW.take (treeN k)) = ((treeL (k + 1)).map (·.1), treeW.take (treeN (k + 1))) := treeP_step k hk

def lvl (k : Nat) : List Int := (treeL k).map (·.1)

def lvls (k : Nat) : List (List Int) := (List.range k).map lvl

theorem lvls_succ (k : Nat) : lvls (k + 1) = lvls k ++ [lvl k] := by simp [lvls, List.range_succ]

theorem lvls_get {j k : Nat} (h : j < k) : (lvls k)[j]? = some (lvl j) := by simp [lvls, h]

def tabI (r : Nat) (ws : List (Int × List Int)) (us : List AV) : It := .mp r (mpI (zipE ws us))

def colI (ws : List (Int × List Int)) : List (List Int) := ws.map (·.2)

theorem colI_get {ws : List (Int × List Int)} {i : Nat} {p : Int × List Int} (h : ws[i]? = some p) : (colI ws)[i]? = some p.2 := by simp [colI, h]

theorem colI_len (ws : List (Int × List Int)) : (colI ws).length = ws.length := by simp [colI]

theorem perm_last (x y z : It) (R S : List It) : (x :: y :: z :: (R ++ S)).Perm (y :: z :: (R ++ (S ++ [x]))) := by
  have h := (List.perm_append_singleton x (y :: z :: (R ++ S))).symm
  have e : y :: z :: (R ++ S) ++ [x] = y :: z :: (R ++ (S ++ [x])) := by simp
  rw [e] at h
  exact h

theorem lvls_mem3 {x y z w : It} {R S : List It} (h : w ∈ S) : w ∈ x :: y :: z :: (R ++ S) := List.mem_cons_of_mem _ (List.mem_cons_of_mem _ (List.mem_cons_of_mem _ (List.mem_append_right _ h)))

theorem rows_mem3 {x y z w : It} {R S : List It} (h : w ∈ R) : w ∈ x :: y :: z :: (R ++ S) := List.mem_cons_of_mem _ (List.mem_cons_of_mem _ (List.mem_cons_of_mem _ (List.mem_append_left _ h)))
end Go.Proofs.Ytlgjakoeogpjlaa
