/- The walk of the law FnExactStarEnds, part 1: what each function that it reaches computes. -/
import Derived.Test.YtlgjakoeogpjlaaCFnExactStarEnds
namespace Go.Proofs.Ytlgjakoeogpjlaa
open Go.AL
set_option linter.unusedVariables false
set_option linter.unusedSimpArgs false
set_option maxRecDepth 100000
set_option maxHeartbeats 1000000
attribute [local irreducible] AS AI AIL OpR AC CW AWP ALoop LS LI LIL LThen LLoop LBlk LRet Lh AX OpV OpF

theorem nf {b : Bool} (h : (!b) = false) : b = true := by cases b <;> simp_all

theorem nt {b : Bool} (h : (!b) = true) : b = false := by cases b <;> simp_all

theorem in_ac (n lo hi : Int) (h : AH) : AC Try.prog 65 [.i .i64 n, .i .i64 lo, .i .i64 hi] h (fun v h' => v = .b (decide (lo ≤ n ∧ n ≤ hi)) ∧ h = h') := by
  refine e65 _ _ _ fun wf => ?_
  unfold c65
  repeat (first | refine AI_seqk fun K hK => ?_ | refine AI_reg ?_ | ((first | refine wmv rfl ?_ | refine wag rfl ?_ | refine war _ rfl rfl rfl (by omega) (by omega) ?_ | refine wbn rfl rfl rfl ?_ | refine wnt rfl ?_ | refine wex rfl rfl ?_ | refine wpt rfl (by first | assumption | with_reducible rfl) rfl ?_ | refine wpf rfl (by first | assumption | with_reducible rfl) rfl ?_ | refine wpb rfl rfl rfl ?_ | refine wmf rfl ?_ | refine wnc rfl ?_ | refine wbq Try.underlying4 rfl rfl _ (.inr ⟨rfl, rfl⟩) ?_ | refine wbq Try.underlying4 rfl rfl _ (.inl ⟨rfl, rfl⟩) ?_); try dsimp only [st, List.set_cons_zero, List.set_cons_succ]) | ((first | refine AS_nil ?_ | refine AI_skip ?_ | refine AI_exit ?_); try simp only [AThen, ABlk, reduceIte, reduceCtorEq]) | ((first | refine hK _ _ ?_ | ((first | clear hK K | clear IH hK K); refine hK _ _ ?_) | ((first | clear hK K | clear IH hK K); (first | clear hK K | clear IH hK K); refine hK _ _ ?_) | ((first | clear hK K | clear IH hK K); (first | clear hK K | clear IH hK K); (first | clear hK K | clear IH hK K); refine hK _ _ ?_)); try (first | clear hK K | clear IH hK K)) | refine AI_cond_t rfl (by first | assumption | with_reducible rfl) ?_ | refine AI_cond_f rfl (by first | assumption | with_reducible rfl) ?_ | refine AS_gy rfl (by first | assumption | with_reducible rfl) ?_ | refine AS_gtn rfl (by first | assumption | with_reducible rfl) ?_ | refine AS_gfn rfl (by first | assumption | with_reducible rfl) ?_ | refine AI_block (AI_loop ?_) | refine AI_block ?_ | refine AI_ret ⟨_, rfl, ?_⟩)
  (first | refine AS_gt rfl ?_ ?_ | refine AS_gf rfl ?_ ?_ | refine AI_cond rfl ?_ ?_) <;> intro hc <;> have hc' := hc <;> try simp only [decide_eq_true_eq, decide_eq_false_iff_not, Bool.not_eq_true', Bool.not_eq_false', Bool.not_eq_true, Bool.not_eq_false, beq_iff_eq, bne_iff_ne, beq_eq_false_iff_ne, bne_eq_false_iff_eq, Int.not_lt, Int.not_le, ge_iff_le, gt_iff_lt, not_and, ne_eq, Decidable.not_not] at hc'
  all_goals
    repeat (first | refine AI_seqk fun K hK => ?_ | refine AI_reg ?_ | ((first | refine wmv rfl ?_ | refine wag rfl ?_ | refine war _ rfl rfl rfl (by omega) (by omega) ?_ | refine wbn rfl rfl rfl ?_ | refine wnt rfl ?_ | refine wex rfl rfl ?_ | refine wpt rfl (by first | assumption | with_reducible rfl) rfl ?_ | refine wpf rfl (by first | assumption | with_reducible rfl) rfl ?_ | refine wpb rfl rfl rfl ?_ | refine wmf rfl ?_ | refine wnc rfl ?_ | refine wbq Try.underlying4 rfl rfl _ (.inr ⟨rfl, rfl⟩) ?_ | refine wbq Try.underlying4 rfl rfl _ (.inl ⟨rfl, rfl⟩) ?_); try dsimp only [st, List.set_cons_zero, List.set_cons_succ]) | ((first | refine AS_nil ?_ | refine AI_skip ?_ | refine AI_exit ?_); try simp only [AThen, ABlk, reduceIte, reduceCtorEq]) | ((first | refine hK _ _ ?_ | ((first | clear hK K | clear IH hK K); refine hK _ _ ?_) | ((first | clear hK K | clear IH hK K); (first | clear hK K | clear IH hK K); refine hK _ _ ?_) | ((first | clear hK K | clear IH hK K); (first | clear hK K | clear IH hK K); (first | clear hK K | clear IH hK K); refine hK _ _ ?_)); try (first | clear hK K | clear IH hK K)) | refine AI_cond_t rfl (by first | assumption | with_reducible rfl) ?_ | refine AI_cond_f rfl (by first | assumption | with_reducible rfl) ?_ | refine AS_gy rfl (by first | assumption | with_reducible rfl) ?_ | refine AS_gtn rfl (by first | assumption | with_reducible rfl) ?_ | refine AS_gfn rfl (by first | assumption | with_reducible rfl) ?_ | refine AI_block (AI_loop ?_) | refine AI_block ?_ | refine AI_ret ⟨_, rfl, ?_⟩)
  · exact ⟨by simp [hc', oneA], rfl⟩
  · exact ⟨by first | (simp [oneA, hc']; done) | (simp [oneA, hc']; omega), rfl⟩

theorem l1In_ac (n lo hi : Int) (h : AH) : AC Try.prog 62 [.i .i64 n, .i .i64 lo, .i .i64 hi] h (fun v h' => v = .b (decide (lo ≤ n ∧ n ≤ hi)) ∧ h = h') := by
  refine e62 _ _ _ fun wf => ?_
  unfold c62
  repeat (first | refine AI_seqk fun K hK => ?_ | refine AI_reg ?_ | ((first | refine wmv rfl ?_ | refine wag rfl ?_ | refine war _ rfl rfl rfl (by omega) (by omega) ?_ | refine wbn rfl rfl rfl ?_ | refine wnt rfl ?_ | refine wex rfl rfl ?_ | refine wpt rfl (by first | assumption | with_reducible rfl) rfl ?_ | refine wpf rfl (by first | assumption | with_reducible rfl) rfl ?_ | refine wpb rfl rfl rfl ?_ | refine wmf rfl ?_ | refine wnc rfl ?_ | refine wbq Try.underlying4 rfl rfl _ (.inr ⟨rfl, rfl⟩) ?_ | refine wbq Try.underlying4 rfl rfl _ (.inl ⟨rfl, rfl⟩) ?_); try dsimp only [st, List.set_cons_zero, List.set_cons_succ]) | ((first | refine AS_nil ?_ | refine AI_skip ?_ | refine AI_exit ?_); try simp only [AThen, ABlk, reduceIte, reduceCtorEq]) | ((first | refine hK _ _ ?_ | ((first | clear hK K | clear IH hK K); refine hK _ _ ?_) | ((first | clear hK K | clear IH hK K); (first | clear hK K | clear IH hK K); refine hK _ _ ?_) | ((first | clear hK K | clear IH hK K); (first | clear hK K | clear IH hK K); (first | clear hK K | clear IH hK K); refine hK _ _ ?_)); try (first | clear hK K | clear IH hK K)) | refine AI_cond_t rfl (by first | assumption | with_reducible rfl) ?_ | refine AI_cond_f rfl (by first | assumption | with_reducible rfl) ?_ | refine AS_gy rfl (by first | assumption | with_reducible rfl) ?_ | refine AS_gtn rfl (by first | assumption | with_reducible rfl) ?_ | refine AS_gfn rfl (by first | assumption | with_reducible rfl) ?_ | refine AI_block (AI_loop ?_) | refine AI_block ?_ | refine AI_ret ⟨_, rfl, ?_⟩)
  (first | refine AS_gt rfl ?_ ?_ | refine AS_gf rfl ?_ ?_ | refine AI_cond rfl ?_ ?_) <;> intro hc <;> have hc' := hc <;> try simp only [decide_eq_true_eq, decide_eq_false_iff_not, Bool.not_eq_true', Bool.not_eq_false', Bool.not_eq_true, Bool.not_eq_false, beq_iff_eq, bne_iff_ne, beq_eq_false_iff_ne, bne_eq_false_iff_eq, Int.not_lt, Int.not_le, ge_iff_le, gt_iff_lt, not_and, ne_eq, Decidable.not_not] at hc'
  all_goals
    repeat (first | refine AI_seqk fun K hK => ?_ | refine AI_reg ?_ | ((first | refine wmv rfl ?_ | refine wag rfl ?_ | refine war _ rfl rfl rfl (by omega) (by omega) ?_ | refine wbn rfl rfl rfl ?_ | refine wnt rfl ?_ | refine wex rfl rfl ?_ | refine wpt rfl (by first | assumption | with_reducible rfl) rfl ?_ | refine wpf rfl (by first | assumption | with_reducible rfl) rfl ?_ | refine wpb rfl rfl rfl ?_ | refine wmf rfl ?_ | refine wnc rfl ?_ | refine wbq Try.underlying4 rfl rfl _ (.inr ⟨rfl, rfl⟩) ?_ | refine wbq Try.underlying4 rfl rfl _ (.inl ⟨rfl, rfl⟩) ?_); try dsimp only [st, List.set_cons_zero, List.set_cons_succ]) | ((first | refine AS_nil ?_ | refine AI_skip ?_ | refine AI_exit ?_); try simp only [AThen, ABlk, reduceIte, reduceCtorEq]) | ((first | refine hK _ _ ?_ | ((first | clear hK K | clear IH hK K); refine hK _ _ ?_) | ((first | clear hK K | clear IH hK K); (first | clear hK K | clear IH hK K); refine hK _ _ ?_) | ((first | clear hK K | clear IH hK K); (first | clear hK K | clear IH hK K); (first | clear hK K | clear IH hK K); refine hK _ _ ?_)); try (first | clear hK K | clear IH hK K)) | refine AI_cond_t rfl (by first | assumption | with_reducible rfl) ?_ | refine AI_cond_f rfl (by first | assumption | with_reducible rfl) ?_ | refine AS_gy rfl (by first | assumption | with_reducible rfl) ?_ | refine AS_gtn rfl (by first | assumption | with_reducible rfl) ?_ | refine AS_gfn rfl (by first | assumption | with_reducible rfl) ?_ | refine AI_block (AI_loop ?_) | refine AI_block ?_ | refine AI_ret ⟨_, rfl, ?_⟩)
  · exact ⟨by simp [hc', oneA], rfl⟩
  · exact ⟨by first | (simp [oneA, hc']; done) | (simp [oneA, hc']; omega), rfl⟩

theorem drop_at {α : Type} {l : List α} {i : Int} (h0 : 0 ≤ i) (h1 : i < l.length) : ∃ y, l[i.toNat]? = some y ∧ y ∈ l ∧ l.drop i.toNat = y :: l.drop (i.toNat + 1) := by
  have hlt : i.toNat < l.length := by omega
  exact ⟨l[i.toNat], List.getElem?_eq_getElem hlt, List.getElem_mem hlt, List.drop_eq_getElem_cons hlt⟩

theorem toNat_succ {i : Int} (h0 : 0 ≤ i) : (i + 1).toNat = i.toNat + 1 := by omega

theorem eqIntS_ac (l l' : List Int) (v v' : AV) (h : AH) (hR : Rd h v l) (hR' : Rd h v' l') (hl : l.length ≤ 4611686018427387904) :
    AC Try.prog 17 [v, v'] h (fun r h' => r = .b (decide (l = l')) ∧ h = h') := by
  refine e17 _ _ fun wf => ?_
  unfold c17
  repeat (first | refine AI_seqk fun K hK => ?_ | refine AI_reg ?_ | ((first | refine wmv rfl ?_ | refine wag rfl ?_ | refine war _ rfl rfl rfl (by omega) (by omega) ?_ | refine wbn rfl rfl rfl ?_ | refine wnt rfl ?_ | refine wex rfl rfl ?_ | refine wpt rfl (by first | assumption | with_reducible rfl) rfl ?_ | refine wpf rfl (by first | assumption | with_reducible rfl) rfl ?_ | refine wpb rfl rfl rfl ?_ | refine wmf rfl ?_ | refine wnc rfl ?_ | refine wbq Try.underlying4 rfl rfl _ (.inr ⟨rfl, rfl⟩) ?_ | refine wbq Try.underlying4 rfl rfl _ (.inl ⟨rfl, rfl⟩) ?_); try dsimp only [st, List.set_cons_zero, List.set_cons_succ]) | ((first | refine AS_nil ?_ | refine AI_skip ?_ | refine AI_exit ?_); try simp only [AThen, ABlk, reduceIte, reduceCtorEq]) | ((first | refine hK _ _ ?_ | ((first | clear hK K | clear IH hK K); refine hK _ _ ?_) | ((first | clear hK K | clear IH hK K); (first | clear hK K | clear IH hK K); refine hK _ _ ?_) | ((first | clear hK K | clear IH hK K); (first | clear hK K | clear IH hK K); (first | clear hK K | clear IH hK K); refine hK _ _ ?_)); try (first | clear hK K | clear IH hK K)) | refine AI_cond_t rfl (by first | assumption | with_reducible rfl) ?_ | refine AI_cond_f rfl (by first | assumption | with_reducible rfl) ?_ | refine AS_gy rfl (by first | assumption | with_reducible rfl) ?_ | refine AS_gtn rfl (by first | assumption | with_reducible rfl) ?_ | refine AS_gfn rfl (by first | assumption | with_reducible rfl) ?_ | refine AI_block (AI_loop ?_) | refine AI_block ?_ | refine AI_ret ⟨_, rfl, ?_⟩)
  refine AS_op (OpR_lenA Try.underlying22 rfl hR.len ?_)
  try (dsimp only [st, setL, AV.cells, List.set_cons_zero, List.set_cons_succ, List.drop_zero, List.drop_succ_cons, List.take_zero, List.take_succ_cons, Nat.zero_add, Nat.add_zero, Nat.reduceAdd, List.cons_append, List.nil_append, List.eraseIdx_cons_zero, List.eraseIdx_cons_succ])
  repeat (first | refine AI_seqk fun K hK => ?_ | refine AI_reg ?_ | ((first | refine wmv rfl ?_ | refine wag rfl ?_ | refine war _ rfl rfl rfl (by omega) (by omega) ?_ | refine wbn rfl rfl rfl ?_ | refine wnt rfl ?_ | refine wex rfl rfl ?_ | refine wpt rfl (by first | assumption | with_reducible rfl) rfl ?_ | refine wpf rfl (by first | assumption | with_reducible rfl) rfl ?_ | refine wpb rfl rfl rfl ?_ | refine wmf rfl ?_ | refine wnc rfl ?_ | refine wbq Try.underlying4 rfl rfl _ (.inr ⟨rfl, rfl⟩) ?_ | refine wbq Try.underlying4 rfl rfl _ (.inl ⟨rfl, rfl⟩) ?_); try dsimp only [st, List.set_cons_zero, List.set_cons_succ]) | ((first | refine AS_nil ?_ | refine AI_skip ?_ | refine AI_exit ?_); try simp only [AThen, ABlk, reduceIte, reduceCtorEq]) | ((first | refine hK _ _ ?_ | ((first | clear hK K | clear IH hK K); refine hK _ _ ?_) | ((first | clear hK K | clear IH hK K); (first | clear hK K | clear IH hK K); refine hK _ _ ?_) | ((first | clear hK K | clear IH hK K); (first | clear hK K | clear IH hK K); (first | clear hK K | clear IH hK K); refine hK _ _ ?_)); try (first | clear hK K | clear IH hK K)) | refine AI_cond_t rfl (by first | assumption | with_reducible rfl) ?_ | refine AI_cond_f rfl (by first | assumption | with_reducible rfl) ?_ | refine AS_gy rfl (by first | assumption | with_reducible rfl) ?_ | refine AS_gtn rfl (by first | assumption | with_reducible rfl) ?_ | refine AS_gfn rfl (by first | assumption | with_reducible rfl) ?_ | refine AI_block (AI_loop ?_) | refine AI_block ?_ | refine AI_ret ⟨_, rfl, ?_⟩)
  refine AS_op (OpR_lenA Try.underlying22 rfl hR'.len ?_)
  try (dsimp only [st, setL, AV.cells, List.set_cons_zero, List.set_cons_succ, List.drop_zero, List.drop_succ_cons, List.take_zero, List.take_succ_cons, Nat.zero_add, Nat.add_zero, Nat.reduceAdd, List.cons_append, List.nil_append, List.eraseIdx_cons_zero, List.eraseIdx_cons_succ])
  repeat (first | refine AI_seqk fun K hK => ?_ | refine AI_reg ?_ | ((first | refine wmv rfl ?_ | refine wag rfl ?_ | refine war _ rfl rfl rfl (by omega) (by omega) ?_ | refine wbn rfl rfl rfl ?_ | refine wnt rfl ?_ | refine wex rfl rfl ?_ | refine wpt rfl (by first | assumption | with_reducible rfl) rfl ?_ | refine wpf rfl (by first | assumption | with_reducible rfl) rfl ?_ | refine wpb rfl rfl rfl ?_ | refine wmf rfl ?_ | refine wnc rfl ?_ | refine wbq Try.underlying4 rfl rfl _ (.inr ⟨rfl, rfl⟩) ?_ | refine wbq Try.underlying4 rfl rfl _ (.inl ⟨rfl, rfl⟩) ?_); try dsimp only [st, List.set_cons_zero, List.set_cons_succ]) | ((first | refine AS_nil ?_ | refine AI_skip ?_ | refine AI_exit ?_); try simp only [AThen, ABlk, reduceIte, reduceCtorEq]) | ((first | refine hK _ _ ?_ | ((first | clear hK K | clear IH hK K); refine hK _ _ ?_) | ((first | clear hK K | clear IH hK K); (first | clear hK K | clear IH hK K); refine hK _ _ ?_) | ((first | clear hK K | clear IH hK K); (first | clear hK K | clear IH hK K); (first | clear hK K | clear IH hK K); refine hK _ _ ?_)); try (first | clear hK K | clear IH hK K)) | refine AI_cond_t rfl (by first | assumption | with_reducible rfl) ?_ | refine AI_cond_f rfl (by first | assumption | with_reducible rfl) ?_ | refine AS_gy rfl (by first | assumption | with_reducible rfl) ?_ | refine AS_gtn rfl (by first | assumption | with_reducible rfl) ?_ | refine AS_gfn rfl (by first | assumption | with_reducible rfl) ?_ | refine AI_block (AI_loop ?_) | refine AI_block ?_ | refine AI_ret ⟨_, rfl, ?_⟩)
  (first | refine AS_gt rfl ?_ ?_ | refine AS_gf rfl ?_ ?_ | refine AI_cond rfl ?_ ?_) <;> intro hc <;> have hc' := hc <;> try simp only [decide_eq_true_eq, decide_eq_false_iff_not, Bool.not_eq_true', Bool.not_eq_false', Bool.not_eq_true, Bool.not_eq_false, beq_iff_eq, bne_iff_ne, beq_eq_false_iff_ne, bne_eq_false_iff_eq, Int.not_lt, Int.not_le, ge_iff_le, gt_iff_lt, not_and, ne_eq, Decidable.not_not] at hc'
  all_goals
    repeat (first | refine AI_seqk fun K hK => ?_ | refine AI_reg ?_ | ((first | refine wmv rfl ?_ | refine wag rfl ?_ | refine war _ rfl rfl rfl (by omega) (by omega) ?_ | refine wbn rfl rfl rfl ?_ | refine wnt rfl ?_ | refine wex rfl rfl ?_ | refine wpt rfl (by first | assumption | with_reducible rfl) rfl ?_ | refine wpf rfl (by first | assumption | with_reducible rfl) rfl ?_ | refine wpb rfl rfl rfl ?_ | refine wmf rfl ?_ | refine wnc rfl ?_ | refine wbq Try.underlying4 rfl rfl _ (.inr ⟨rfl, rfl⟩) ?_ | refine wbq Try.underlying4 rfl rfl _ (.inl ⟨rfl, rfl⟩) ?_); try dsimp only [st, List.set_cons_zero, List.set_cons_succ]) | ((first | refine AS_nil ?_ | refine AI_skip ?_ | refine AI_exit ?_); try simp only [AThen, ABlk, reduceIte, reduceCtorEq]) | ((first | refine hK _ _ ?_ | ((first | clear hK K | clear IH hK K); refine hK _ _ ?_) | ((first | clear hK K | clear IH hK K); (first | clear hK K | clear IH hK K); refine hK _ _ ?_) | ((first | clear hK K | clear IH hK K); (first | clear hK K | clear IH hK K); (first | clear hK K | clear IH hK K); refine hK _ _ ?_)); try (first | clear hK K | clear IH hK K)) | refine AI_cond_t rfl (by first | assumption | with_reducible rfl) ?_ | refine AI_cond_f rfl (by first | assumption | with_reducible rfl) ?_ | refine AS_gy rfl (by first | assumption | with_reducible rfl) ?_ | refine AS_gtn rfl (by first | assumption | with_reducible rfl) ?_ | refine AS_gfn rfl (by first | assumption | with_reducible rfl) ?_ | refine AI_block (AI_loop ?_) | refine AI_block ?_ | refine AI_ret ⟨_, rfl, ?_⟩)
  · refine ⟨?_, rfl⟩
    simp only [oneA, AV.b.injEq]
    symm
    simp
    intro e
    subst e
    exact hc' rfl
  · have hlen : l.length = l'.length := by omega
    refine AIL_ind (fun (n : Nat) a h' => ∃ (i : Int), (∃ r : Nat → AV, a = [v, v', un, un, .b false, .i .i64 i, r 6, r 7, r 8, r 9, r 10, r 11, r 12, r 13, r 14, r 15, r 16, r 17, r 18, r 19, r 20, r 21, r 22, r 23, r 24, r 25]) ∧ 0 ≤ i ∧ i + n = l.length ∧ h = h' ∧ l.take i.toNat = l'.take i.toNat)
      ?_ l.length _ _ ⟨0, exJ rfl, by omega, by omega, rfl, by simp⟩
    rintro n a h' ⟨i, ⟨r, rfl⟩, h0, hn, rfl, heq⟩ IH
    repeat (first | refine AI_seqk fun K hK => ?_ | refine AI_reg ?_ | ((first | refine wmv rfl ?_ | refine wag rfl ?_ | refine war _ rfl rfl rfl (by omega) (by omega) ?_ | refine wbn rfl rfl rfl ?_ | refine wnt rfl ?_ | refine wex rfl rfl ?_ | refine wpt rfl (by first | assumption | with_reducible rfl) rfl ?_ | refine wpf rfl (by first | assumption | with_reducible rfl) rfl ?_ | refine wpb rfl rfl rfl ?_ | refine wmf rfl ?_ | refine wnc rfl ?_ | refine wbq Try.underlying4 rfl rfl _ (.inr ⟨rfl, rfl⟩) ?_ | refine wbq Try.underlying4 rfl rfl _ (.inl ⟨rfl, rfl⟩) ?_); try dsimp only [st, List.set_cons_zero, List.set_cons_succ]) | ((first | refine AS_nil ?_ | refine AI_skip ?_ | refine AI_exit ?_); try simp only [AThen, ABlk, reduceIte, reduceCtorEq]) | ((first | refine hK _ _ ?_ | ((first | clear hK K | clear IH hK K); refine hK _ _ ?_) | ((first | clear hK K | clear IH hK K); (first | clear hK K | clear IH hK K); refine hK _ _ ?_) | ((first | clear hK K | clear IH hK K); (first | clear hK K | clear IH hK K); (first | clear hK K | clear IH hK K); refine hK _ _ ?_)); try (first | clear hK K | clear IH hK K)) | refine AI_cond_t rfl (by first | assumption | with_reducible rfl) ?_ | refine AI_cond_f rfl (by first | assumption | with_reducible rfl) ?_ | refine AS_gy rfl (by first | assumption | with_reducible rfl) ?_ | refine AS_gtn rfl (by first | assumption | with_reducible rfl) ?_ | refine AS_gfn rfl (by first | assumption | with_reducible rfl) ?_ | refine AI_block (AI_loop ?_) | refine AI_block ?_ | refine AI_ret ⟨_, rfl, ?_⟩)
    refine AS_op (OpR_lenA Try.underlying22 rfl hR.len ?_)
    try (dsimp only [st, setL, AV.cells, List.set_cons_zero, List.set_cons_succ, List.drop_zero, List.drop_succ_cons, List.take_zero, List.take_succ_cons, Nat.zero_add, Nat.add_zero, Nat.reduceAdd, List.cons_append, List.nil_append, List.eraseIdx_cons_zero, List.eraseIdx_cons_succ])
    repeat (first | refine AI_seqk fun K hK => ?_ | refine AI_reg ?_ | ((first | refine wmv rfl ?_ | refine wag rfl ?_ | refine war _ rfl rfl rfl (by omega) (by omega) ?_ | refine wbn rfl rfl rfl ?_ | refine wnt rfl ?_ | refine wex rfl rfl ?_ | refine wpt rfl (by first | assumption | with_reducible rfl) rfl ?_ | refine wpf rfl (by first | assumption | with_reducible rfl) rfl ?_ | refine wpb rfl rfl rfl ?_ | refine wmf rfl ?_ | refine wnc rfl ?_ | refine wbq Try.underlying4 rfl rfl _ (.inr ⟨rfl, rfl⟩) ?_ | refine wbq Try.underlying4 rfl rfl _ (.inl ⟨rfl, rfl⟩) ?_); try dsimp only [st, List.set_cons_zero, List.set_cons_succ]) | ((first | refine AS_nil ?_ | refine AI_skip ?_ | refine AI_exit ?_); try simp only [AThen, ABlk, reduceIte, reduceCtorEq]) | ((first | refine hK _ _ ?_ | ((first | clear hK K | clear IH hK K); refine hK _ _ ?_) | ((first | clear hK K | clear IH hK K); (first | clear hK K | clear IH hK K); refine hK _ _ ?_) | ((first | clear hK K | clear IH hK K); (first | clear hK K | clear IH hK K); (first | clear hK K | clear IH hK K); refine hK _ _ ?_)); try (first | clear hK K | clear IH hK K)) | refine AI_cond_t rfl (by first | assumption | with_reducible rfl) ?_ | refine AI_cond_f rfl (by first | assumption | with_reducible rfl) ?_ | refine AS_gy rfl (by first | assumption | with_reducible rfl) ?_ | refine AS_gtn rfl (by first | assumption | with_reducible rfl) ?_ | refine AS_gfn rfl (by first | assumption | with_reducible rfl) ?_ | refine AI_block (AI_loop ?_) | refine AI_block ?_ | refine AI_ret ⟨_, rfl, ?_⟩)
    (first | refine AS_gt rfl ?_ ?_ | refine AS_gf rfl ?_ ?_ | refine AI_cond rfl ?_ ?_) <;> intro hc <;> have hc' := hc <;> try simp only [decide_eq_true_eq, decide_eq_false_iff_not, Bool.not_eq_true', Bool.not_eq_false', Bool.not_eq_true, Bool.not_eq_false, beq_iff_eq, bne_iff_ne, beq_eq_false_iff_ne, bne_eq_false_iff_eq, Int.not_lt, Int.not_le, ge_iff_le, gt_iff_lt, not_and, ne_eq, Decidable.not_not] at hc'
    all_goals
      repeat (first | refine AI_seqk fun K hK => ?_ | refine AI_reg ?_ | ((first | refine wmv rfl ?_ | refine wag rfl ?_ | refine war _ rfl rfl rfl (by omega) (by omega) ?_ | refine wbn rfl rfl rfl ?_ | refine wnt rfl ?_ | refine wex rfl rfl ?_ | refine wpt rfl (by first | assumption | with_reducible rfl) rfl ?_ | refine wpf rfl (by first | assumption | with_reducible rfl) rfl ?_ | refine wpb rfl rfl rfl ?_ | refine wmf rfl ?_ | refine wnc rfl ?_ | refine wbq Try.underlying4 rfl rfl _ (.inr ⟨rfl, rfl⟩) ?_ | refine wbq Try.underlying4 rfl rfl _ (.inl ⟨rfl, rfl⟩) ?_); try dsimp only [st, List.set_cons_zero, List.set_cons_succ]) | ((first | refine AS_nil ?_ | refine AI_skip ?_ | refine AI_exit ?_); try simp only [AThen, ABlk, reduceIte, reduceCtorEq]) | ((first | refine hK _ _ ?_ | ((first | clear hK K | clear IH hK K); refine hK _ _ ?_) | ((first | clear hK K | clear IH hK K); (first | clear hK K | clear IH hK K); refine hK _ _ ?_) | ((first | clear hK K | clear IH hK K); (first | clear hK K | clear IH hK K); (first | clear hK K | clear IH hK K); refine hK _ _ ?_)); try (first | clear hK K | clear IH hK K)) | refine AI_cond_t rfl (by first | assumption | with_reducible rfl) ?_ | refine AI_cond_f rfl (by first | assumption | with_reducible rfl) ?_ | refine AS_gy rfl (by first | assumption | with_reducible rfl) ?_ | refine AS_gtn rfl (by first | assumption | with_reducible rfl) ?_ | refine AS_gfn rfl (by first | assumption | with_reducible rfl) ?_ | refine AI_block (AI_loop ?_) | refine AI_block ?_ | refine AI_ret ⟨_, rfl, ?_⟩)
    · obtain ⟨y, hy, _, _⟩ := drop_at h0 hc'
      obtain ⟨y', hy', _, _⟩ := drop_at (l := l') h0 (by omega)
      refine dr17_0 0 ?_
      repeat (first | ((first | refine AX_v (OpV_move rfl) ?_ | refine AX_v (OpV_assign rfl) ?_ | refine AX_v (OpV_arith _ rfl rfl rfl (by omega) (by omega)) ?_ | refine AX_v (OpV_bin rfl rfl rfl) ?_ | refine AX_v (OpV_not rfl) ?_ | refine AX_v (OpV_extract rfl rfl) ?_ | refine AX_v (OpV_nilCheck rfl) ?_); try dsimp only [st, List.set_cons_zero, List.set_cons_succ]) | (refine AX_nil ?_; try simp only [AThen, ABlk, reduceIte, reduceCtorEq]))
      refine AX_idx Try.underlying22 sz3 rfl rfl hR (fun _ => rfl) h0 hy fun b o hrow => ?_
      try (dsimp only [st, setL, AV.cells, List.set_cons_zero, List.set_cons_succ, List.drop_zero, List.drop_succ_cons, List.take_zero, List.take_succ_cons, Nat.zero_add, Nat.add_zero, Nat.reduceAdd, List.cons_append, List.nil_append, List.eraseIdx_cons_zero, List.eraseIdx_cons_succ])
      repeat (first | ((first | refine AX_v (OpV_move rfl) ?_ | refine AX_v (OpV_assign rfl) ?_ | refine AX_v (OpV_arith _ rfl rfl rfl (by omega) (by omega)) ?_ | refine AX_v (OpV_bin rfl rfl rfl) ?_ | refine AX_v (OpV_not rfl) ?_ | refine AX_v (OpV_extract rfl rfl) ?_ | refine AX_v (OpV_nilCheck rfl) ?_); try dsimp only [st, List.set_cons_zero, List.set_cons_succ]) | (refine AX_nil ?_; try simp only [AThen, ABlk, reduceIte, reduceCtorEq]))
      refine AX_f (OpF_load rfl (loadA_1 ag3 (cell_row hrow)) (by first | (intro e; cases e; done) | (intro _; rfl) | simp [det, detS])) ?_
      try (dsimp only [st, setL, AV.cells, List.set_cons_zero, List.set_cons_succ, List.drop_zero, List.drop_succ_cons, List.take_zero, List.take_succ_cons, Nat.zero_add, Nat.add_zero, Nat.reduceAdd, List.cons_append, List.nil_append, List.eraseIdx_cons_zero, List.eraseIdx_cons_succ])
      repeat (first | ((first | refine AX_v (OpV_move rfl) ?_ | refine AX_v (OpV_assign rfl) ?_ | refine AX_v (OpV_arith _ rfl rfl rfl (by omega) (by omega)) ?_ | refine AX_v (OpV_bin rfl rfl rfl) ?_ | refine AX_v (OpV_not rfl) ?_ | refine AX_v (OpV_extract rfl rfl) ?_ | refine AX_v (OpV_nilCheck rfl) ?_); try dsimp only [st, List.set_cons_zero, List.set_cons_succ]) | (refine AX_nil ?_; try simp only [AThen, ABlk, reduceIte, reduceCtorEq]))
      refine AX_idx Try.underlying22 sz3 rfl rfl hR' (fun _ => rfl) h0 hy' fun b o hrow => ?_
      try (dsimp only [st, setL, AV.cells, List.set_cons_zero, List.set_cons_succ, List.drop_zero, List.drop_succ_cons, List.take_zero, List.take_succ_cons, Nat.zero_add, Nat.add_zero, Nat.reduceAdd, List.cons_append, List.nil_append, List.eraseIdx_cons_zero, List.eraseIdx_cons_succ])
      repeat (first | ((first | refine AX_v (OpV_move rfl) ?_ | refine AX_v (OpV_assign rfl) ?_ | refine AX_v (OpV_arith _ rfl rfl rfl (by omega) (by omega)) ?_ | refine AX_v (OpV_bin rfl rfl rfl) ?_ | refine AX_v (OpV_not rfl) ?_ | refine AX_v (OpV_extract rfl rfl) ?_ | refine AX_v (OpV_nilCheck rfl) ?_); try dsimp only [st, List.set_cons_zero, List.set_cons_succ]) | (refine AX_nil ?_; try simp only [AThen, ABlk, reduceIte, reduceCtorEq]))
      refine AX_f (OpF_load rfl (loadA_1 ag3 (cell_row hrow)) (by first | (intro e; cases e; done) | (intro _; rfl) | simp [det, detS])) ?_
      try (dsimp only [st, setL, AV.cells, List.set_cons_zero, List.set_cons_succ, List.drop_zero, List.drop_succ_cons, List.take_zero, List.take_succ_cons, Nat.zero_add, Nat.add_zero, Nat.reduceAdd, List.cons_append, List.nil_append, List.eraseIdx_cons_zero, List.eraseIdx_cons_succ])
      repeat (first | ((first | refine AX_v (OpV_move rfl) ?_ | refine AX_v (OpV_assign rfl) ?_ | refine AX_v (OpV_arith _ rfl rfl rfl (by omega) (by omega)) ?_ | refine AX_v (OpV_bin rfl rfl rfl) ?_ | refine AX_v (OpV_not rfl) ?_ | refine AX_v (OpV_extract rfl rfl) ?_ | refine AX_v (OpV_nilCheck rfl) ?_); try dsimp only [st, List.set_cons_zero, List.set_cons_succ]) | (refine AX_nil ?_; try simp only [AThen, ABlk, reduceIte, reduceCtorEq]))
      repeat (first | refine AI_seqk fun K hK => ?_ | refine AI_reg ?_ | ((first | refine wmv rfl ?_ | refine wag rfl ?_ | refine war _ rfl rfl rfl (by omega) (by omega) ?_ | refine wbn rfl rfl rfl ?_ | refine wnt rfl ?_ | refine wex rfl rfl ?_ | refine wpt rfl (by first | assumption | with_reducible rfl) rfl ?_ | refine wpf rfl (by first | assumption | with_reducible rfl) rfl ?_ | refine wpb rfl rfl rfl ?_ | refine wmf rfl ?_ | refine wnc rfl ?_ | refine wbq Try.underlying4 rfl rfl _ (.inr ⟨rfl, rfl⟩) ?_ | refine wbq Try.underlying4 rfl rfl _ (.inl ⟨rfl, rfl⟩) ?_); try dsimp only [st, List.set_cons_zero, List.set_cons_succ]) | ((first | refine AS_nil ?_ | refine AI_skip ?_ | refine AI_exit ?_); try simp only [AThen, ABlk, reduceIte, reduceCtorEq]) | ((first | refine hK _ _ ?_ | ((first | clear hK K | clear IH hK K); refine hK _ _ ?_) | ((first | clear hK K | clear IH hK K); (first | clear hK K | clear IH hK K); refine hK _ _ ?_) | ((first | clear hK K | clear IH hK K); (first | clear hK K | clear IH hK K); (first | clear hK K | clear IH hK K); refine hK _ _ ?_)); try (first | clear hK K | clear IH hK K)) | refine AI_cond_t rfl (by first | assumption | with_reducible rfl) ?_ | refine AI_cond_f rfl (by first | assumption | with_reducible rfl) ?_ | refine AS_gy rfl (by first | assumption | with_reducible rfl) ?_ | refine AS_gtn rfl (by first | assumption | with_reducible rfl) ?_ | refine AS_gfn rfl (by first | assumption | with_reducible rfl) ?_ | refine AI_block (AI_loop ?_) | refine AI_block ?_ | refine AI_ret ⟨_, rfl, ?_⟩)
      (first | refine AS_gt rfl ?_ ?_ | refine AS_gf rfl ?_ ?_ | refine AI_cond rfl ?_ ?_) <;> intro hc <;> have hc' := hc <;> try simp only [decide_eq_true_eq, decide_eq_false_iff_not, Bool.not_eq_true', Bool.not_eq_false', Bool.not_eq_true, Bool.not_eq_false, beq_iff_eq, bne_iff_ne, beq_eq_false_iff_ne, bne_eq_false_iff_eq, Int.not_lt, Int.not_le, ge_iff_le, gt_iff_lt, not_and, ne_eq, Decidable.not_not] at hc'
      all_goals
        repeat (first | refine AI_seqk fun K hK => ?_ | refine AI_reg ?_ | ((first | refine wmv rfl ?_ | refine wag rfl ?_ | refine war _ rfl rfl rfl (by omega) (by omega) ?_ | refine wbn rfl rfl rfl ?_ | refine wnt rfl ?_ | refine wex rfl rfl ?_ | refine wpt rfl (by first | assumption | with_reducible rfl) rfl ?_ | refine wpf rfl (by first | assumption | with_reducible rfl) rfl ?_ | refine wpb rfl rfl rfl ?_ | refine wmf rfl ?_ | refine wnc rfl ?_ | refine wbq Try.underlying4 rfl rfl _ (.inr ⟨rfl, rfl⟩) ?_ | refine wbq Try.underlying4 rfl rfl _ (.inl ⟨rfl, rfl⟩) ?_); try dsimp only [st, List.set_cons_zero, List.set_cons_succ]) | ((first | refine AS_nil ?_ | refine AI_skip ?_ | refine AI_exit ?_); try simp only [AThen, ABlk, reduceIte, reduceCtorEq]) | ((first | refine hK _ _ ?_ | ((first | clear hK K | clear IH hK K); refine hK _ _ ?_) | ((first | clear hK K | clear IH hK K); (first | clear hK K | clear IH hK K); refine hK _ _ ?_) | ((first | clear hK K | clear IH hK K); (first | clear hK K | clear IH hK K); (first | clear hK K | clear IH hK K); refine hK _ _ ?_)); try (first | clear hK K | clear IH hK K)) | refine AI_cond_t rfl (by first | assumption | with_reducible rfl) ?_ | refine AI_cond_f rfl (by first | assumption | with_reducible rfl) ?_ | refine AS_gy rfl (by first | assumption | with_reducible rfl) ?_ | refine AS_gtn rfl (by first | assumption | with_reducible rfl) ?_ | refine AS_gfn rfl (by first | assumption | with_reducible rfl) ?_ | refine AI_block (AI_loop ?_) | refine AI_block ?_ | refine AI_ret ⟨_, rfl, ?_⟩)
      · refine ⟨?_, rfl⟩
        simp only [oneA, AV.b.injEq]
        symm
        simp
        intro e
        exact hc' (Option.some.inj (by rw [← hy, ← hy', e]))
      · refine IH (n - 1) _ _ (by omega) ⟨i + 1, exJ rfl, by omega, by omega, rfl, ?_⟩
        rw [toNat_succ h0, List.take_add_one, List.take_add_one, heq, hy, hy', hc']
    · refine ⟨?_, rfl⟩
      have e : i.toNat = l.length := by omega
      rw [e] at heq
      rw [List.take_length, hlen, List.take_length] at heq
      simp [oneA, heq]

/-- Numbers from k on. -/
def markL : Int → Nat → List Int
  | _, 0 => []
  | k, n + 1 => k :: markL (k + 1) n

theorem markL_len : ∀ (n : Nat) (k : Int), (markL k n).length = n
  | 0, _ => rfl
  | n + 1, k => by simp [markL, markL_len n]

theorem markL_get : ∀ (n : Nat) (k : Int) (i : Nat), i < n → (markL k n)[i]? = some (k + i)
  | 0, _, i, h => by omega
  | n + 1, k, 0, _ => by simp [markL]
  | n + 1, k, i + 1, h => by
    simp only [markL, List.getElem?_cons_succ]
    rw [markL_get n (k + 1) i (by omega)]
    congr 1
    omega

theorem markL_set {l : List Int} {k : Int} {i : Nat} (h : i < l.length) : (markL k i ++ l.drop i).set i (k + i) = markL k (i + 1) ++ l.drop (i + 1) := by
  apply List.ext_getElem?
  intro j
  have hi := markL_len i k
  have hi1 := markL_len (i + 1) k
  by_cases e : i = j
  · subst e
    rw [List.getElem?_set_self (by simp [hi]; omega), List.getElem?_append_left (by omega), markL_get (i + 1) k i (by omega)]
  · rw [List.getElem?_set_ne e]
    by_cases hlt : j < i
    · rw [List.getElem?_append_left (by omega), List.getElem?_append_left (by omega), markL_get i k j hlt, markL_get (i + 1) k j (by omega)]
    · rw [List.getElem?_append_right (by omega), List.getElem?_append_right (by omega), hi, hi1, List.getElem?_drop, List.getElem?_drop]
      congr 1
      omega

theorem heldIntS_ac (n : Nat) (v : AV) (k : Int) (h : AH) (hR : Rd h v (markL k n)) (hk0 : 0 ≤ k) (hk1 : k + n ≤ 4611686018427387904) :
    AC Try.prog 19 [v, .i .i64 k] h (fun r h' => r = .i .i64 (k + n) ∧ h = h') := by
  refine e19 _ _ fun wf => ?_
  unfold c19
  repeat (first | refine AI_seqk fun K hK => ?_ | refine AI_reg ?_ | ((first | refine wmv rfl ?_ | refine wag rfl ?_ | refine war _ rfl rfl rfl (by omega) (by omega) ?_ | refine wbn rfl rfl rfl ?_ | refine wnt rfl ?_ | refine wex rfl rfl ?_ | refine wpt rfl (by first | assumption | with_reducible rfl) rfl ?_ | refine wpf rfl (by first | assumption | with_reducible rfl) rfl ?_ | refine wpb rfl rfl rfl ?_ | refine wmf rfl ?_ | refine wnc rfl ?_ | refine wbq Try.underlying4 rfl rfl _ (.inr ⟨rfl, rfl⟩) ?_ | refine wbq Try.underlying4 rfl rfl _ (.inl ⟨rfl, rfl⟩) ?_); try dsimp only [st, List.set_cons_zero, List.set_cons_succ]) | ((first | refine AS_nil ?_ | refine AI_skip ?_ | refine AI_exit ?_); try simp only [AThen, ABlk, reduceIte, reduceCtorEq]) | ((first | refine hK _ _ ?_ | ((first | clear hK K | clear IH hK K); refine hK _ _ ?_) | ((first | clear hK K | clear IH hK K); (first | clear hK K | clear IH hK K); refine hK _ _ ?_) | ((first | clear hK K | clear IH hK K); (first | clear hK K | clear IH hK K); (first | clear hK K | clear IH hK K); refine hK _ _ ?_)); try (first | clear hK K | clear IH hK K)) | refine AI_cond_t rfl (by first | assumption | with_reducible rfl) ?_ | refine AI_cond_f rfl (by first | assumption | with_reducible rfl) ?_ | refine AS_gy rfl (by first | assumption | with_reducible rfl) ?_ | refine AS_gtn rfl (by first | assumption | with_reducible rfl) ?_ | refine AS_gfn rfl (by first | assumption | with_reducible rfl) ?_ | refine AI_block (AI_loop ?_) | refine AI_block ?_ | refine AI_ret ⟨_, rfl, ?_⟩)
  have hlen := hR.len
  rw [markL_len] at hlen
  refine AIL_ind (fun (m : Nat) a h' => ∃ (i : Int), (∃ r : Nat → AV, a = [v, .i .i64 (k + i), r 2, r 3, .i .i64 0, .i .i64 i, r 6, r 7, r 8, r 9, r 10, r 11, r 12, r 13, r 14, r 15, r 16, r 17, r 18, r 19, r 20]) ∧ 0 ≤ i ∧ i + m = n ∧ h = h')
    ?_ n _ _ ⟨0, exJ (by simp only [Int.add_zero]; rfl), by omega, by omega, rfl⟩
  rintro m a h' ⟨i, ⟨r, rfl⟩, h0', hn, rfl⟩ IH
  repeat (first | refine AI_seqk fun K hK => ?_ | refine AI_reg ?_ | ((first | refine wmv rfl ?_ | refine wag rfl ?_ | refine war _ rfl rfl rfl (by omega) (by omega) ?_ | refine wbn rfl rfl rfl ?_ | refine wnt rfl ?_ | refine wex rfl rfl ?_ | refine wpt rfl (by first | assumption | with_reducible rfl) rfl ?_ | refine wpf rfl (by first | assumption | with_reducible rfl) rfl ?_ | refine wpb rfl rfl rfl ?_ | refine wmf rfl ?_ | refine wnc rfl ?_ | refine wbq Try.underlying4 rfl rfl _ (.inr ⟨rfl, rfl⟩) ?_ | refine wbq Try.underlying4 rfl rfl _ (.inl ⟨rfl, rfl⟩) ?_); try dsimp only [st, List.set_cons_zero, List.set_cons_succ]) | ((first | refine AS_nil ?_ | refine AI_skip ?_ | refine AI_exit ?_); try simp only [AThen, ABlk, reduceIte, reduceCtorEq]) | ((first | refine hK _ _ ?_ | ((first | clear hK K | clear IH hK K); refine hK _ _ ?_) | ((first | clear hK K | clear IH hK K); (first | clear hK K | clear IH hK K); refine hK _ _ ?_) | ((first | clear hK K | clear IH hK K); (first | clear hK K | clear IH hK K); (first | clear hK K | clear IH hK K); refine hK _ _ ?_)); try (first | clear hK K | clear IH hK K)) | refine AI_cond_t rfl (by first | assumption | with_reducible rfl) ?_ | refine AI_cond_f rfl (by first | assumption | with_reducible rfl) ?_ | refine AS_gy rfl (by first | assumption | with_reducible rfl) ?_ | refine AS_gtn rfl (by first | assumption | with_reducible rfl) ?_ | refine AS_gfn rfl (by first | assumption | with_reducible rfl) ?_ | refine AI_block (AI_loop ?_) | refine AI_block ?_ | refine AI_ret ⟨_, rfl, ?_⟩)
  refine AS_op (OpR_lenA Try.underlying22 rfl hlen ?_)
  try (dsimp only [st, setL, AV.cells, List.set_cons_zero, List.set_cons_succ, List.drop_zero, List.drop_succ_cons, List.take_zero, List.take_succ_cons, Nat.zero_add, Nat.add_zero, Nat.reduceAdd, List.cons_append, List.nil_append, List.eraseIdx_cons_zero, List.eraseIdx_cons_succ])
  repeat (first | refine AI_seqk fun K hK => ?_ | refine AI_reg ?_ | ((first | refine wmv rfl ?_ | refine wag rfl ?_ | refine war _ rfl rfl rfl (by omega) (by omega) ?_ | refine wbn rfl rfl rfl ?_ | refine wnt rfl ?_ | refine wex rfl rfl ?_ | refine wpt rfl (by first | assumption | with_reducible rfl) rfl ?_ | refine wpf rfl (by first | assumption | with_reducible rfl) rfl ?_ | refine wpb rfl rfl rfl ?_ | refine wmf rfl ?_ | refine wnc rfl ?_ | refine wbq Try.underlying4 rfl rfl _ (.inr ⟨rfl, rfl⟩) ?_ | refine wbq Try.underlying4 rfl rfl _ (.inl ⟨rfl, rfl⟩) ?_); try dsimp only [st, List.set_cons_zero, List.set_cons_succ]) | ((first | refine AS_nil ?_ | refine AI_skip ?_ | refine AI_exit ?_); try simp only [AThen, ABlk, reduceIte, reduceCtorEq]) | ((first | refine hK _ _ ?_ | ((first | clear hK K | clear IH hK K); refine hK _ _ ?_) | ((first | clear hK K | clear IH hK K); (first | clear hK K | clear IH hK K); refine hK _ _ ?_) | ((first | clear hK K | clear IH hK K); (first | clear hK K | clear IH hK K); (first | clear hK K | clear IH hK K); refine hK _ _ ?_)); try (first | clear hK K | clear IH hK K)) | refine AI_cond_t rfl (by first | assumption | with_reducible rfl) ?_ | refine AI_cond_f rfl (by first | assumption | with_reducible rfl) ?_ | refine AS_gy rfl (by first | assumption | with_reducible rfl) ?_ | refine AS_gtn rfl (by first | assumption | with_reducible rfl) ?_ | refine AS_gfn rfl (by first | assumption | with_reducible rfl) ?_ | refine AI_block (AI_loop ?_) | refine AI_block ?_ | refine AI_ret ⟨_, rfl, ?_⟩)
  (first | refine AS_gt rfl ?_ ?_ | refine AS_gf rfl ?_ ?_ | refine AI_cond rfl ?_ ?_) <;> intro hc <;> have hc' := hc <;> try simp only [decide_eq_true_eq, decide_eq_false_iff_not, Bool.not_eq_true', Bool.not_eq_false', Bool.not_eq_true, Bool.not_eq_false, beq_iff_eq, bne_iff_ne, beq_eq_false_iff_ne, bne_eq_false_iff_eq, Int.not_lt, Int.not_le, ge_iff_le, gt_iff_lt, not_and, ne_eq, Decidable.not_not] at hc'
  all_goals
    repeat (first | refine AI_seqk fun K hK => ?_ | refine AI_reg ?_ | ((first | refine wmv rfl ?_ | refine wag rfl ?_ | refine war _ rfl rfl rfl (by omega) (by omega) ?_ | refine wbn rfl rfl rfl ?_ | refine wnt rfl ?_ | refine wex rfl rfl ?_ | refine wpt rfl (by first | assumption | with_reducible rfl) rfl ?_ | refine wpf rfl (by first | assumption | with_reducible rfl) rfl ?_ | refine wpb rfl rfl rfl ?_ | refine wmf rfl ?_ | refine wnc rfl ?_ | refine wbq Try.underlying4 rfl rfl _ (.inr ⟨rfl, rfl⟩) ?_ | refine wbq Try.underlying4 rfl rfl _ (.inl ⟨rfl, rfl⟩) ?_); try dsimp only [st, List.set_cons_zero, List.set_cons_succ]) | ((first | refine AS_nil ?_ | refine AI_skip ?_ | refine AI_exit ?_); try simp only [AThen, ABlk, reduceIte, reduceCtorEq]) | ((first | refine hK _ _ ?_ | ((first | clear hK K | clear IH hK K); refine hK _ _ ?_) | ((first | clear hK K | clear IH hK K); (first | clear hK K | clear IH hK K); refine hK _ _ ?_) | ((first | clear hK K | clear IH hK K); (first | clear hK K | clear IH hK K); (first | clear hK K | clear IH hK K); refine hK _ _ ?_)); try (first | clear hK K | clear IH hK K)) | refine AI_cond_t rfl (by first | assumption | with_reducible rfl) ?_ | refine AI_cond_f rfl (by first | assumption | with_reducible rfl) ?_ | refine AS_gy rfl (by first | assumption | with_reducible rfl) ?_ | refine AS_gtn rfl (by first | assumption | with_reducible rfl) ?_ | refine AS_gfn rfl (by first | assumption | with_reducible rfl) ?_ | refine AI_block (AI_loop ?_) | refine AI_block ?_ | refine AI_ret ⟨_, rfl, ?_⟩)
  · have hy := markL_get n k i.toNat (by omega)
    rw [show k + (i.toNat : Int) = k + i by omega] at hy
    refine AS_op (OpR_idx Try.underlying22 sz3 rfl rfl hR (fun _ => rfl) h0' hy fun b o hrow => ?_)
    try (dsimp only [st, setL, AV.cells, List.set_cons_zero, List.set_cons_succ, List.drop_zero, List.drop_succ_cons, List.take_zero, List.take_succ_cons, Nat.zero_add, Nat.add_zero, Nat.reduceAdd, List.cons_append, List.nil_append, List.eraseIdx_cons_zero, List.eraseIdx_cons_succ])
    repeat (first | refine AI_seqk fun K hK => ?_ | refine AI_reg ?_ | ((first | refine wmv rfl ?_ | refine wag rfl ?_ | refine war _ rfl rfl rfl (by omega) (by omega) ?_ | refine wbn rfl rfl rfl ?_ | refine wnt rfl ?_ | refine wex rfl rfl ?_ | refine wpt rfl (by first | assumption | with_reducible rfl) rfl ?_ | refine wpf rfl (by first | assumption | with_reducible rfl) rfl ?_ | refine wpb rfl rfl rfl ?_ | refine wmf rfl ?_ | refine wnc rfl ?_ | refine wbq Try.underlying4 rfl rfl _ (.inr ⟨rfl, rfl⟩) ?_ | refine wbq Try.underlying4 rfl rfl _ (.inl ⟨rfl, rfl⟩) ?_); try dsimp only [st, List.set_cons_zero, List.set_cons_succ]) | ((first | refine AS_nil ?_ | refine AI_skip ?_ | refine AI_exit ?_); try simp only [AThen, ABlk, reduceIte, reduceCtorEq]) | ((first | refine hK _ _ ?_ | ((first | clear hK K | clear IH hK K); refine hK _ _ ?_) | ((first | clear hK K | clear IH hK K); (first | clear hK K | clear IH hK K); refine hK _ _ ?_) | ((first | clear hK K | clear IH hK K); (first | clear hK K | clear IH hK K); (first | clear hK K | clear IH hK K); refine hK _ _ ?_)); try (first | clear hK K | clear IH hK K)) | refine AI_cond_t rfl (by first | assumption | with_reducible rfl) ?_ | refine AI_cond_f rfl (by first | assumption | with_reducible rfl) ?_ | refine AS_gy rfl (by first | assumption | with_reducible rfl) ?_ | refine AS_gtn rfl (by first | assumption | with_reducible rfl) ?_ | refine AS_gfn rfl (by first | assumption | with_reducible rfl) ?_ | refine AI_block (AI_loop ?_) | refine AI_block ?_ | refine AI_ret ⟨_, rfl, ?_⟩)
    refine AS_op (OpR_load rfl (loadA_1 ag3 (cell_row hrow)) ?_)
    try (dsimp only [st, setL, AV.cells, List.set_cons_zero, List.set_cons_succ, List.drop_zero, List.drop_succ_cons, List.take_zero, List.take_succ_cons, Nat.zero_add, Nat.add_zero, Nat.reduceAdd, List.cons_append, List.nil_append, List.eraseIdx_cons_zero, List.eraseIdx_cons_succ])
    repeat (first | refine AI_seqk fun K hK => ?_ | refine AI_reg ?_ | ((first | refine wmv rfl ?_ | refine wag rfl ?_ | refine war _ rfl rfl rfl (by omega) (by omega) ?_ | refine wbn rfl rfl rfl ?_ | refine wnt rfl ?_ | refine wex rfl rfl ?_ | refine wpt rfl (by first | assumption | with_reducible rfl) rfl ?_ | refine wpf rfl (by first | assumption | with_reducible rfl) rfl ?_ | refine wpb rfl rfl rfl ?_ | refine wmf rfl ?_ | refine wnc rfl ?_ | refine wbq Try.underlying4 rfl rfl _ (.inr ⟨rfl, rfl⟩) ?_ | refine wbq Try.underlying4 rfl rfl _ (.inl ⟨rfl, rfl⟩) ?_); try dsimp only [st, List.set_cons_zero, List.set_cons_succ]) | ((first | refine AS_nil ?_ | refine AI_skip ?_ | refine AI_exit ?_); try simp only [AThen, ABlk, reduceIte, reduceCtorEq]) | ((first | refine hK _ _ ?_ | ((first | clear hK K | clear IH hK K); refine hK _ _ ?_) | ((first | clear hK K | clear IH hK K); (first | clear hK K | clear IH hK K); refine hK _ _ ?_) | ((first | clear hK K | clear IH hK K); (first | clear hK K | clear IH hK K); (first | clear hK K | clear IH hK K); refine hK _ _ ?_)); try (first | clear hK K | clear IH hK K)) | refine AI_cond_t rfl (by first | assumption | with_reducible rfl) ?_ | refine AI_cond_f rfl (by first | assumption | with_reducible rfl) ?_ | refine AS_gy rfl (by first | assumption | with_reducible rfl) ?_ | refine AS_gtn rfl (by first | assumption | with_reducible rfl) ?_ | refine AS_gfn rfl (by first | assumption | with_reducible rfl) ?_ | refine AI_block (AI_loop ?_) | refine AI_block ?_ | refine AI_ret ⟨_, rfl, ?_⟩)
    first | (refine AS_gtnH rfl (by simp) ?_; intro hg) | (refine AS_gfnH rfl (by simp) ?_; intro hg) | (refine AI_cond_fH rfl (by simp) ?_; intro hg) | skip
    repeat (first | refine AI_seqk fun K hK => ?_ | refine AI_reg ?_ | ((first | refine wmv rfl ?_ | refine wag rfl ?_ | refine war _ rfl rfl rfl (by omega) (by omega) ?_ | refine wbn rfl rfl rfl ?_ | refine wnt rfl ?_ | refine wex rfl rfl ?_ | refine wpt rfl (by first | assumption | with_reducible rfl) rfl ?_ | refine wpf rfl (by first | assumption | with_reducible rfl) rfl ?_ | refine wpb rfl rfl rfl ?_ | refine wmf rfl ?_ | refine wnc rfl ?_ | refine wbq Try.underlying4 rfl rfl _ (.inr ⟨rfl, rfl⟩) ?_ | refine wbq Try.underlying4 rfl rfl _ (.inl ⟨rfl, rfl⟩) ?_); try dsimp only [st, List.set_cons_zero, List.set_cons_succ]) | ((first | refine AS_nil ?_ | refine AI_skip ?_ | refine AI_exit ?_); try simp only [AThen, ABlk, reduceIte, reduceCtorEq]) | ((first | refine hK _ _ ?_ | ((first | clear hK K | clear IH hK K); refine hK _ _ ?_) | ((first | clear hK K | clear IH hK K); (first | clear hK K | clear IH hK K); refine hK _ _ ?_) | ((first | clear hK K | clear IH hK K); (first | clear hK K | clear IH hK K); (first | clear hK K | clear IH hK K); refine hK _ _ ?_)); try (first | clear hK K | clear IH hK K)) | refine AI_cond_t rfl (by first | assumption | with_reducible rfl) ?_ | refine AI_cond_f rfl (by first | assumption | with_reducible rfl) ?_ | refine AS_gy rfl (by first | assumption | with_reducible rfl) ?_ | refine AS_gtn rfl (by first | assumption | with_reducible rfl) ?_ | refine AS_gfn rfl (by first | assumption | with_reducible rfl) ?_ | refine AI_block (AI_loop ?_) | refine AI_block ?_ | refine AI_ret ⟨_, rfl, ?_⟩)
    exact IH (m - 1) _ _ (by omega) ⟨i + 1, exJ (by simp only [Int.add_assoc]; rfl), by omega, by omega, rfl⟩
  · refine ⟨?_, rfl⟩
    simp only [oneA, AV.i.injEq, true_and]
    omega

theorem take_snoc {α : Type} {l : List α} {i : Nat} {y : α} (hy : l[i]? = some y) : l.take (i + 1) = l.take i ++ [y] := by rw [List.take_add_one, hy]; rfl

theorem eqIntS_same (l : List Int) (v v' : AV) (h : AH) (hR : Rd h v l) (hR' : Rd h v' l) (hl : l.length ≤ 4611686018427387904) :
    AC Try.prog 17 [v, v'] h (fun r h' => r = .b true ∧ h = h') := (eqIntS_ac l l v v' h hR hR' hl).mono fun r h' H => by simpa using H

def ssI (v : AV) (us : List AV) (ll : List (List Int)) : List It := .sl v 1 (us.flatMap enV) :: (rowsI us ll ++ [])

structure PlP (h : AH) (b : Nat) (p : PlanM) (vs vo : AV) : Prop where
  row : h.row b 0 3 = some [.i .i64 p.n, vs, vo]
  steps : RdG 2 enStep h vs p.steps
  outs : Rd h vo p.outs

theorem PlP.le {h h' : AH} {b : Nat} {p : PlanM} {vs vo : AV} (H : PlP h b p vs vo) (hle : h.le h') : PlP h' b p vs vo := ⟨hle.row H.row, H.steps.le hle, H.outs.le hle⟩

/-! ### Marks -/
theorem markIntSL_ac (l : List Int) (v : AV) (k : Int) (h0 h : AH) (L : List It) (HL : Loq h0 h (.sl v 1 (l.flatMap enI) :: L)) (hk0 : 0 ≤ k) (hk1 : k + l.length ≤ 4611686018427387904) :
    AC Try.prog 18 [v, .i .i64 k] h (fun r h' => ∃ M, (r = .i .i64 (k + l.length) ∧ M = .sl v 1 ((markL k l.length).flatMap enI) :: L) ∧ Loq h0 h' M) := by
  have hlv := (HL.rdI 0 rfl enI1 (by decide)).len
  refine e18 _ _ fun wf => ?_
  unfold c18
  refine LI_startL HL ?_
  refine W ?_
  refine LIL_ind (fun n a M => ∃ (i : Int), (∃ r : Nat → AV, a = [v, .i .i64 (k + i), r 2, r 3, .i .i64 0, .i .i64 i, r 6, r 7, r 8, r 9, r 10, r 11, r 12, r 13, r 14, r 15, r 16, r 17, r 18]) ∧ M = .sl v 1 ((markL k i.toNat ++ l.drop i.toNat).flatMap enI) :: L ∧ 0 ≤ i ∧ i + n = l.length)
    l.length ⟨0, exJ (by simp only [Int.add_zero]; rfl), by simp [markL], by omega, by omega⟩ ?_
  rintro n a M ⟨i, ⟨r, rfl⟩, rfl, h0', hn⟩ IH
  have hlen : (markL k i.toNat ++ l.drop i.toNat).length = l.length := by simp [markL_len]; omega
  refine W ?_
  (first | refine LS_gt rfl ?_ ?_ | refine LS_gf rfl ?_ ?_ | refine LI_cond rfl ?_ ?_) <;> intro hc <;> have hc' := hc <;> try simp only [decide_eq_true_eq, decide_eq_false_iff_not, Bool.not_eq_true', Bool.not_eq_false', Bool.not_eq_true, Bool.not_eq_false, beq_iff_eq, bne_iff_ne, beq_eq_false_iff_ne, bne_eq_false_iff_eq, Int.not_lt, Int.not_le, ge_iff_le, gt_iff_lt, not_and, ne_eq, Decidable.not_not] at hc'
  all_goals (try (dsimp only [st, setL, AV.cells, List.set_cons_zero, List.set_cons_succ, List.drop_zero, List.drop_succ_cons, List.take_zero, List.take_succ_cons, Nat.zero_add, Nat.add_zero, Nat.reduceAdd, List.cons_append, List.nil_append, List.eraseIdx_cons_zero, List.eraseIdx_cons_succ]))
  all_goals (refine W ?_)
  · obtain ⟨b, o, c, rfl⟩ := sl_of hlv (by omega)
    refine LS_is h0' hc' rfl rfl ?_
    try (dsimp only [st, setL, AV.cells, List.set_cons_zero, List.set_cons_succ, List.drop_zero, List.drop_succ_cons, List.take_zero, List.take_succ_cons, Nat.zero_add, Nat.add_zero, Nat.reduceAdd, List.cons_append, List.nil_append, List.eraseIdx_cons_zero, List.eraseIdx_cons_succ])
    refine W ?_
    refine LS_ss (k + i) 0 i.toNat rfl (by omega) rfl rfl enI1 (by decide) rfl rfl rfl ?_
    try (dsimp only [st, setL, AV.cells, List.set_cons_zero, List.set_cons_succ, List.drop_zero, List.drop_succ_cons, List.take_zero, List.take_succ_cons, Nat.zero_add, Nat.add_zero, Nat.reduceAdd, List.cons_append, List.nil_append, List.eraseIdx_cons_zero, List.eraseIdx_cons_succ])
    refine W ?_
    have hz : k + i = k + (i.toNat : Int) := by omega
    refine IH (n - 1) _ _ (by omega) ⟨i + 1, exJ (by simp only [Int.add_assoc]; rfl), ?_, by omega, by omega⟩
    rw [toNat_succ h0', hz, markL_set (by omega)]
  · have e : i.toNat = l.length := by omega
    rw [e, List.drop_length, List.append_nil]
    refine RET fun h' HL => ?_
    try dsimp only [oneA]
    exact ⟨_, ⟨by rw [show i = (l.length : Int) by omega], rfl⟩, HL⟩

theorem heldIntSL_ac (n : Nat) (v : AV) (k : Int) (h : AH) (hR : Rd h v (markL k n)) (hk0 : 0 ≤ k) (hk1 : k + n ≤ 4611686018427387904) :
    AC Try.prog 19 [v, .i .i64 k] h (fun r h' => r = .i .i64 (k + n) ∧ h.le h') := (heldIntS_ac n v k h hR hk0 hk1).mono fun r h' ⟨e1, e2⟩ => ⟨e1, by rw [e2]; exact .refl _⟩

theorem loq_ns {h0 h : AH} {L : List It} (H : Loq h0 h L) (k : Nat) : Loq h0 h (.sl .ns k [] :: L) := H.cons (.inl ⟨rfl, rfl⟩) fun y hy => .sl fun b e => by cases e

/-- A list handed back, and whether. -/
def TupI (l : List Int) (ok : Bool) (r : AV) (M : List It) : Prop := ∃ w, r = .tup [w, .b ok] ∧ lenA w = some l.length ∧ w.sc = true ∧ M = [.sl w 1 (l.flatMap enI)]

theorem TupI.of {l : List Int} {ok : Bool} {h0 h : AH} {w : AV} (H : AL.Own h0 1 enI h w l) : ∃ M, TupI l ok (.tup [w, .b ok]) M ∧ Loq h0 h M := ⟨_, ⟨w, rfl, H.rd.len, rd_sc H.rd, rfl⟩, H.loc enI1⟩

theorem TupI.none {h0 h : AH} {L : List It} (H : Loq h0 h L) : ∃ M, TupI [] false (.tup [.ns, .b false]) M ∧ Loq h0 h M := ⟨_, ⟨.ns, rfl, rfl, rfl, rfl⟩, loq_ns (H.sub (List.nil_sublist _)) 1⟩

/-! ### Values that are used later -/
def putL : List Int → Int → List Int
  | [], n => [n]
  | x :: l, n => if x < n then x :: putL l n else if x = n then x :: l else n :: x :: l

theorem putL_at : ∀ (k : Nat) (l : List Int) (n : Int), (∀ x ∈ l.take k, x < n) → putL l n = l.take k ++ putL (l.drop k) n
  | 0, l, n, _ => by simp
  | k + 1, [], n, _ => by simp
  | k + 1, x :: l, n, h => by
    have h1 : x < n := h x (by simp)
    rw [List.take_succ_cons, List.drop_succ_cons, List.cons_append, ← putL_at k l n fun y hy => h y (by simp [hy])]
    simp [putL, h1]

theorem take_lt {l : List Int} {k : Nat} {y n : Int} (hy : l[k]? = some y) (h : ∀ x ∈ l.take k, x < n) (hyn : y < n) : ∀ x ∈ l.take (k + 1), x < n := by
  intro x hx
  rw [List.take_add_one, hy] at hx
  simp only [Option.toList_some, List.mem_append, List.mem_singleton] at hx
  rcases hx with hx | rfl
  · exact h x hx
  · exact hyn

theorem lit1 {v : AV} (h : v.cells = [v]) (hs : v.cells.all AV.sc = true) : litA 1 0 [(0, v)] = some [v] := by
  unfold litA
  rw [if_pos ⟨rfl, by rw [h]; rfl, hs⟩]
  simp [litA, h]

theorem l1Own_ac (l : List Int) (v : AV) (h : AH) (hR : Rd h v l) (hl : l.length ≤ 1048576) :
    AC Try.prog 88 [v] h (fun r h' => AL.Own h 1 enI h' r l) := by
  refine e88 _ fun wf => ?_
  unfold c88
  refine LI_start wf ?_
  refine W ?_
  refine LS_lt ([] : List Int) rfl rfl (by decide) rfl rfl rfl rfl enI1 rfl rfl fun w1 h1 s1 => ?_
  try (dsimp only [st, setL, AV.cells, List.set_cons_zero, List.set_cons_succ, List.drop_zero, List.drop_succ_cons, List.take_zero, List.take_succ_cons, Nat.zero_add, Nat.add_zero, Nat.reduceAdd, List.cons_append, List.nil_append, List.eraseIdx_cons_zero, List.eraseIdx_cons_succ])
  refine W ?_
  refine LS_ap0 0 rfl (fun h' HL => hR.le HL.le) enI1 (by decide) (by simp; omega) (by simp; omega) rfl rfl rfl fun w2 hw2 sw2 => ?_
  try (dsimp only [st, setL, AV.cells, List.set_cons_zero, List.set_cons_succ, List.drop_zero, List.drop_succ_cons, List.take_zero, List.take_succ_cons, Nat.zero_add, Nat.add_zero, Nat.reduceAdd, List.cons_append, List.nil_append, List.eraseIdx_cons_zero, List.eraseIdx_cons_succ])
  refine W ?_
  refine RET fun h' HL => ?_
  try dsimp only [oneA]
  exact HL.ownI 0 rfl enI1 (by decide)

def TupQ (l : List MatM) (ok : Bool) (r : AV) (M : List It) : Prop := ∃ w, r = .tup [w, .b ok] ∧ lenA w = some l.length ∧ w.sc = true ∧ M = [.sl w 4 (l.flatMap enMat)]

theorem TupQ.of {l : List MatM} {ok : Bool} {h0 h : AH} {w : AV} (H : AL.Own h0 4 enMat h w l) : ∃ M, TupQ l ok (.tup [w, .b ok]) M ∧ Loq h0 h M := ⟨_, ⟨w, rfl, H.rd.len, rd_sc H.rd, rfl⟩, H.loc enMat4⟩

theorem TupQ.none {h0 h : AH} {L : List It} (H : Loq h0 h L) : ∃ M, TupQ [] false (.tup [.ns, .b false]) M ∧ Loq h0 h M := ⟨_, ⟨.ns, rfl, rfl, rfl, rfl⟩, loq_ns (H.sub (List.nil_sublist _)) 4⟩

def zeroP : AV := .agg [.i .i64 0, .ns, .ns]

/-- A plan handed back, and whether. -/
def TupP (q : PlanM) (ok : Bool) (r : AV) (M : List It) : Prop := ∃ ws wo, r = .tup [.agg [.i .i64 q.n, ws, wo], .b ok] ∧ lenA ws = some q.steps.length ∧ ws.sc = true ∧ lenA wo = some q.outs.length ∧ wo.sc = true ∧ M = [.sl ws 2 (q.steps.flatMap enStep), .sl wo 1 (q.outs.flatMap enI)]

theorem TupP.none {h0 h : AH} {L : List It} (H : Loq h0 h L) : ∃ M, TupP emptyPlan false (.tup [zeroP, .b false]) M ∧ Loq h0 h M := ⟨_, ⟨.ns, .ns, rfl, rfl, rfl, rfl, rfl, rfl⟩, loq_ns (loq_ns (H.sub (List.nil_sublist _)) 1) 2⟩

def TupPP (q1 q2 : PlanM) (ok : Bool) (r : AV) (M : List It) : Prop := ∃ ws wo xs xo, r = .tup [.agg [.i .i64 q1.n, ws, wo], .agg [.i .i64 q2.n, xs, xo], .b ok] ∧ (lenA ws = some q1.steps.length ∧ ws.sc = true ∧ lenA wo = some q1.outs.length ∧ wo.sc = true) ∧ (lenA xs = some q2.steps.length ∧ xs.sc = true ∧ lenA xo = some q2.outs.length ∧ xo.sc = true) ∧ M = [.sl ws 2 (q1.steps.flatMap enStep), .sl wo 1 (q1.outs.flatMap enI), .sl xs 2 (q2.steps.flatMap enStep), .sl xo 1 (q2.outs.flatMap enI)]

theorem TupPP.none {h0 h : AH} {L : List It} (H : Loq h0 h L) : ∃ M, TupPP emptyPlan emptyPlan false (.tup [zeroP, zeroP, .b false]) M ∧ Loq h0 h M := ⟨_, ⟨.ns, .ns, .ns, .ns, rfl, ⟨rfl, rfl, rfl, rfl⟩, ⟨rfl, rfl, rfl, rfl⟩, rfl⟩, loq_ns (loq_ns (loq_ns (loq_ns (H.sub (List.nil_sublist _)) 1) 2) 1) 2⟩

/-! ### Orders of the steps, as they are told one by one -/
theorem LO_apc {P : Program} {h0 : AH} {L : List It} {a : List AV} {d : Option Nat} {X : List AV → List It → Prop} {α : Type} {k : Nat} {enc : α → List AV} {T e : TypeId} {x y : Operand} {v u : AV} {ll l' : List α} {bytes : Nat} {z : AV} [i1 : Tsl P T e] [i2 : Tsz P e k] [i4 : Tby P e bytes] [i3 : Tze P e z]
    (hv : v = .ns ∨ ∃ b o n, v = .sl b o n true) (hRv : ∀ h, Loq h0 h L → RdG k enc h v ll) (hR : ∀ h, Loq h0 h L → RdG k enc h u l')
    (hke : ∀ x, (enc x).length = k) (hk0 : 0 < k) (hne : l' ≠ []) (hbd : (ll.length + l'.length) * bytes ≤ 140737488355328) (hbd2 : ll.length + l'.length ≤ 4611686018427387904) (hzl : z.cells.length = k)
    (hx : ev a x = some v) (hy : ev a y = some u) (H : ∀ w, lenA w = some (ll ++ l').length → w.sc = true → X (st a d w) (.sl w k ((ll ++ l').flatMap enc) :: L)) :
    LO P h0 L (.call { callee := .builtin .append, args := #[x, y], argTypes := #[T, T] }) d X a := by
  intro h HL
  have hRv' := hRv h HL
  have hR' := hR h HL
  rcases hv with rfl | ⟨b, o, n, rfl⟩
  · have hll : ll = [] := by
      have e := hRv'.len
      simp [lenA] at e
      exact List.eq_nil_of_length_eq_zero e.symm
    subst hll
    have HL1 : Loq h0 h (.sl .ns k (([] : List α).flatMap enc) :: L) := HL.cons (.inl ⟨rfl, rfl⟩) fun y hy => .sl fun b e => by cases e
    exact LO_ap (X := X) 0 rfl (fun h1 HL' => hR h1 HL'.tail) hke hk0 hne hbd hbd2 hzl hx hy H h HL1
  · rcases hRv'.rd with e1 | ⟨b', o', c', e1, hrow, _⟩
    · cases e1
    · injection e1 with q1 q2 q3 q4
      subst q1; subst q2; subst q3
      rcases hR'.rd with e2 | ⟨b2, o2, c2, rfl, hrow2, _⟩
      · subst e2
        have e := hR'.len
        simp [lenA] at e
        exact absurd (List.eq_nil_of_length_eq_zero e.symm) hne
      · have hpos : 0 < l'.length := List.length_pos_iff.2 hne
        exact OpR_append_clip i1.e i2.e i4.e i3.e hzl hx hy hpos hrow hrow2 hbd hbd2 ⟨_, HL.newS hke (ll ++ l') false (by simp) (by simp), H _ (by simp [lenA]) rfl⟩

def clipA : AV → AV
  | .sl b o n _ => .sl b o n true
  | v => v

theorem clipA_rd {h : AH} {v : AV} {l : List Int} (H : Rd h v l) : Rd h (clipA v) l := by
  rcases H.rd with rfl | ⟨b, o, c, rfl, h1, h2⟩
  · exact H
  · exact ⟨rfl, .inr ⟨b, o, true, rfl, h1, h2⟩⟩

theorem clipA_c {h : AH} {v : AV} {l : List Int} (H : Rd h v l) : clipA v = .ns ∨ ∃ b o n, clipA v = .sl b o n true := by
  rcases H.rd with rfl | ⟨b, o, c, rfl, h1, h2⟩
  · exact .inl rfl
  · exact .inr ⟨_, _, _, rfl⟩

theorem OpV_c3 {P : Program} {a : List AV} {T e : TypeId} {x hi mx : Operand} {b off len k : Nat} {c : Bool} {m : Int} [i1 : Tsl P T e] [i2 : Tsz P e k] (hx : ev a x = some (.sl b off len c)) (hh : ev a hi = some (.i .i64 m)) (hm : ev a mx = some (.i .i64 m)) (h1 : m = len) :
    OpV P (.slice T x none (some hi) (some mx)) a (.sl b off len true) := by
  unfold OpV
  intro ι ca hr o ho
  subst h1
  obtain ⟨pl, y, cap, hpl, hq, hle, hcl, hxx⟩ := rel_sl (ev_rel hr hx)
  have e1 := rel_i (ev_rel hr hh)
  have e2 := rel_i (ev_rel hr hm)
  have hrun : ∀ w, (Instr.sliceBounds true len cap none (some (ca.eval hi)) (some (ca.eval mx))).run P w = .ok (0, len, len) w := fun w => by
    simp [Instr.sliceBounds, e1, e2, AL.run_sliceBound (show (0 : Int) ≤ len by omega) (show ((len : Int)).toNat ≤ cap by omega), AL.run_sliceBound (show (0 : Int) ≤ len by omega) (show ((len : Int)).toNat ≤ len by omega)]
  refine ⟨.slice (some (if len = 0 then y else y.add (0 * k))) (len - 0) (len - 0), fun w => ?_, ?_⟩
  · unfold execOp
    simp only [ho, hq, Instr.sliceAt, Sem.run_bind, run_underlying i1.e, Result.andThen_ok, Option.map_none, Instr.slice, hrun, run_sizeOf_sz i2.e, Sem.run_pure, Option.map_some]
    by_cases e : len = 0 <;> simp [e]
  · refine .sl b off _ true pl _ len hpl (Nat.le_refl _) (fun _ => rfl) ?_
    by_cases e : len = 0
    · exact .inl e
    · rw [if_neg e]
      have hc0 : ¬ cap = 0 := by omega
      obtain ⟨e3, e4⟩ := hxx.resolve_left hc0
      refine .inr ⟨by rw [e3, add_none]; simp, ?_⟩
      have := Nat.mul_le_mul_right pl.k hle
      omega

theorem OpV_n3 {P : Program} {a : List AV} {T e : TypeId} {x hi mx : Operand} {k : Nat} [i1 : Tsl P T e] [i2 : Tsz P e k] (hx : ev a x = some .ns) (hh : ev a hi = some (.i .i64 0)) (hm : ev a mx = some (.i .i64 0)) :
    OpV P (.slice T x none (some hi) (some mx)) a .ns := by
  unfold OpV
  intro ι ca hr o ho
  have hq : ca.eval x = .slice none 0 0 := by
    have := ev_rel hr hx
    generalize ca.eval x = q at this
    cases this; rfl
  have e1 := rel_i (ev_rel hr hh)
  have e2 := rel_i (ev_rel hr hm)
  have hrun : ∀ w, (Instr.sliceBounds true 0 0 none (some (ca.eval hi)) (some (ca.eval mx))).run P w = .ok (0, 0, 0) w := fun w => by
    simp [Instr.sliceBounds, e1, e2, AL.run_sliceBound (show (0 : Int) ≤ 0 by omega) (show ((0 : Int)).toNat ≤ 0 by omega)]
  refine ⟨.slice none 0 0, fun w => ?_, .ns⟩
  unfold execOp
  simp only [ho, hq, Instr.sliceAt, Sem.run_bind, run_underlying i1.e, Result.andThen_ok, Option.map_none, Instr.slice, hrun, run_sizeOf_sz i2.e, Sem.run_pure, Option.map_some]
  simp

theorem Clip_ac (l : List Int) (v : AV) (h : AH) (hR : Rd h v l) (hl : l.length ≤ 1048576) : AC Try.prog 92 [v] h (fun r h' => r = clipA v ∧ h.le h') := by
  have hln := hR.len
  rcases hR.rd with rfl | ⟨b, o, c, rfl, _, _⟩
  · obtain rfl : l = [] := by simp [lenA] at hln; exact List.eq_nil_of_length_eq_zero hln.symm
    refine e92 _ fun wf => ?_
    unfold c92
    refine LI_start wf ?_
    refine W ?_
    refine LS_v (OpV_n3 rfl rfl rfl) ?_
    try (dsimp only [st, setL, AV.cells, List.set_cons_zero, List.set_cons_succ, List.drop_zero, List.drop_succ_cons, List.take_zero, List.take_succ_cons, Nat.zero_add, Nat.add_zero, Nat.reduceAdd, List.cons_append, List.nil_append, List.eraseIdx_cons_zero, List.eraseIdx_cons_succ])
    refine W ?_
    refine RET fun h' HL => ?_
    try dsimp only [oneA]
    exact ⟨rfl, HL.le⟩
  · refine e92 _ fun wf => ?_
    unfold c92
    refine LI_start wf ?_
    refine W ?_
    refine LS_v (OpV_c3 rfl rfl rfl rfl) ?_
    try (dsimp only [st, setL, AV.cells, List.set_cons_zero, List.set_cons_succ, List.drop_zero, List.drop_succ_cons, List.take_zero, List.take_succ_cons, Nat.zero_add, Nat.add_zero, Nat.reduceAdd, List.cons_append, List.nil_append, List.eraseIdx_cons_zero, List.eraseIdx_cons_succ])
    refine W ?_
    refine RET fun h' HL => ?_
    try dsimp only [oneA]
    exact ⟨rfl, HL.le⟩

/-! ### Star chains: plain laws -/
def lastD (c : List Int) : Int := c.getLastD 0

theorem lastD_snoc (c : List Int) (x : Int) : lastD (c ++ [x]) = x := by simp [lastD]

def goodC (c : List Int) : Prop := c ≠ [] ∧ ∀ x ∈ c, 1 ≤ x ∧ x ≤ lastD c

theorem goodC_one : goodC [1] := ⟨by simp, by simp [lastD]⟩

theorem goodC.last {c : List Int} (h : goodC c) : 1 ≤ lastD c := by
  obtain ⟨h1, h2⟩ := h
  cases c with
  | nil => exact absurd rfl h1
  | cons x l => have := h2 x (by simp); omega

theorem goodC_snoc {c : List Int} (h : goodC c) {x : Int} (hx : x ∈ c) : goodC (c ++ [lastD c + x]) := by
  have h1 := h.2 x hx
  refine ⟨by simp, fun y hy => ?_⟩
  rw [lastD_snoc]
  rcases List.mem_append.1 hy with hy | hy
  · have := h.2 y hy; omega
  · rw [List.mem_singleton.1 hy]; have := h.last; omega

/-! ### The power tree: plain laws -/
def putN (n : Int) : List Int → List Int
  | [] => [n]
  | x :: l => if x < n then x :: putN n l else if x = n then x :: l else n :: x :: l

/-! ### The ends of star chains: plain laws -/
def allE : Nat → List Int → List Int
  | 0, c => [lastD c]
  | k + 1, c => c.flatMap fun x => allE k (c ++ [lastD c + x])

theorem putN_mem {n : Int} (m : Int) : ∀ (l : List Int), n ∈ putN m l ↔ n = m ∨ n ∈ l
  | [] => by simp [putN]
  | x :: l => by
    rw [putN]
    split
    · rw [List.mem_cons, List.mem_cons, putN_mem m l]
      constructor
      · rintro (h | h | h) <;> simp [h]
      · rintro (h | h | h) <;> simp [h]
    · split
      · rename_i h; rw [h]; simp
      · simp

theorem putN_sorted (m : Int) : ∀ (l : List Int), l.Pairwise (· < ·) → (putN m l).Pairwise (· < ·)
  | [], _ => by simp [putN]
  | x :: l, h => by
    rw [List.pairwise_cons] at h
    rw [putN]
    split
    · rename_i hx
      rw [List.pairwise_cons]
      refine ⟨fun y hy => ?_, putN_sorted m l h.2⟩
      rcases (putN_mem m l).1 hy with rfl | hy
      · exact hx
      · exact h.1 y hy
    · split
      · exact List.pairwise_cons.2 h
      · rename_i h1 h2
        rw [List.pairwise_cons]
        refine ⟨fun y hy => ?_, List.pairwise_cons.2 h⟩
        rcases List.mem_cons.1 hy with rfl | hy
        · omega
        · have := h.1 y hy; omega

/-- Two rising lists with the same elements are one. -/
theorem rise_ext : ∀ (l l' : List Int), l.Pairwise (· < ·) → l'.Pairwise (· < ·) → (∀ n, n ∈ l ↔ n ∈ l') → l = l'
  | [], [], _, _, _ => rfl
  | [], y :: l', _, _, h => by have := (h y).2 (by simp); simp at this
  | x :: l, [], _, _, h => by have := (h x).1 (by simp); simp at this
  | x :: l, y :: l', h1, h2, h => by
    rw [List.pairwise_cons] at h1 h2
    have hxy : x = y := by
      rcases List.mem_cons.1 ((h x).1 (by simp)) with e | e
      · exact e
      · rcases List.mem_cons.1 ((h y).2 (by simp)) with e' | e'
        · exact e'.symm
        · have := h2.1 x e
          have := h1.1 y e'
          omega
    subst hxy
    congr 1
    refine rise_ext l l' h1.2 h2.2 fun n => ⟨fun hn => ?_, fun hn => ?_⟩
    · rcases List.mem_cons.1 ((h n).1 (by simp [hn])) with e | e
      · have := h1.1 n hn; omega
      · exact e
    · rcases List.mem_cons.1 ((h n).2 (by simp [hn])) with e | e
      · have := h2.1 n hn; omega
      · exact e

/-- All ends in rising order, as the reference keeps them. -/
def endsL (k : Nat) : List Int := (allE k [1]).foldl (fun l n => putN n l) []

theorem foldP_mem {n : Int} : ∀ (es l : List Int), n ∈ es.foldl (fun l n => putN n l) l ↔ n ∈ es ∨ n ∈ l
  | [], l => by simp
  | e :: es, l => by
    rw [List.foldl_cons, foldP_mem es, putN_mem, List.mem_cons]
    constructor
    · rintro (h | h | h) <;> simp [h]
    · rintro ((h | h) | h) <;> simp [h]

theorem foldP_sorted : ∀ (es l : List Int), l.Pairwise (· < ·) → (es.foldl (fun l n => putN n l) l).Pairwise (· < ·)
  | [], l, h => h
  | e :: es, l, h => foldP_sorted es _ (putN_sorted e l h)

theorem endsL_sorted (k : Nat) : (endsL k).Pairwise (· < ·) := foldP_sorted _ _ .nil

theorem endsL_small : ∀ k : Nat, k < 7 → (endsL k).head? = some ((k : Int) + 1) ∧ (endsL k).getLast? = some (2 ^ k : Int) ∧ (endsL k).length ≤ 64 := by decide +kernel

/-! ### The reference's search -/
theorem lastD_at {c : List Int} (hg : goodC c) : c[((c.length : Int) - 1).toNat]? = some (lastD c) := by
  have hne := hg.1
  have hl : 0 < c.length := List.length_pos_iff.2 hne
  rw [show ((c.length : Int) - 1).toNat = c.length - 1 by omega, ← List.getLast?_eq_getElem?, lastD]
  cases c with
  | nil => exact absurd rfl hne
  | cons x l => simp [List.getLastD, List.getLast?]

def TupS (l : List (List Int)) (ok : Bool) (r : AV) (M : List It) : Prop := ∃ w us, r = .tup [w, .b ok] ∧ us.length = l.length ∧ lenA w = some us.length ∧ w.sc = true ∧ M = ssI w us l

theorem TupS.none {h0 h : AH} {L : List It} (H : Loq h0 h L) : ∃ M, TupS [] false (.tup [.ns, .b false]) M ∧ Loq h0 h M := ⟨_, ⟨.ns, [], rfl, rfl, rfl, rfl, rfl⟩, loq_ns (H.sub (List.nil_sublist _)) 1⟩

def chB (lo m : Int) (c : List Int) : Prop := ∀ x ∈ c, lo ≤ x ∧ x ≤ m

theorem chB.mono {lo m lo' m' : Int} {c : List Int} (h : chB lo m c) (h0 : lo' ≤ lo) (h1 : m ≤ m') : chB lo' m' c := fun x hx => by have := h x hx; omega

theorem chB.set {lo m : Int} {c : List Int} {z : Int} (h : chB lo m c) (i : Nat) (h0 : lo ≤ z) (h1 : z ≤ m) : chB lo m (c.set i z) := fun x hx => by
  rcases List.mem_or_eq_of_mem_set hx with hx | rfl
  · exact h x hx
  · exact ⟨h0, h1⟩

structure TS (ws0 : List (Int × List Int)) (s : List Int × List (Int × List Int)) (B : Nat) : Prop where
  nl : s.1.length ≤ B
  nb : ∀ n ∈ s.1, 0 ≤ n ∧ n ≤ 256
  pre : ∃ t, s.2 = ws0 ++ t
  wb : ∀ p ∈ s.2, 1 ≤ p.2.length ∧ p.2.length ≤ 14 ∧ ∀ x ∈ p.2, 0 ≤ x ∧ x ≤ 256

theorem TS.mono {ws0 : List (Int × List Int)} {s : List Int × List (Int × List Int)} {B B' : Nat} (H : TS ws0 s B) (h : B ≤ B') : TS ws0 s B' := ⟨Nat.le_trans H.nl h, H.nb, H.pre, H.wb⟩

/-! ### The power tree: the reference's walk -/
theorem putNL : ∀ (l : List Int) (n : Int), putN n l = putL l n
  | [], n => rfl
  | x :: l, n => by rw [putN, putL, putNL l n]

theorem l1PutN_ac (l : List Int) (n : Int) (v : AV) (h : AH) (hR : Rd h v l) (hl : l.length ≤ 1048576) (hnm : n ∉ l) :
    AC Try.prog 91 [v, .i .i64 n] h (fun r h' => AL.Own h 1 enI h' r (putL l n)) := by
  have hRl := hR.len
  refine e91 _ _ fun wf => ?_
  unfold c91
  refine LI_start wf ?_
  refine W ?_
  refine LIL_ind (fun m a L => ∃ (k : Int), (∃ r : Nat → AV, a = [v, .i .i64 n, r 2, r 3, r 4, .i .i64 k, r 6, r 7, r 8, r 9, r 10, r 11, r 12, r 13, r 14, r 15, r 16, r 17, r 18, r 19, r 20, r 21, r 22, r 23, r 24, r 25, r 26, r 27, r 28, r 29, r 30, r 31, r 32, r 33, r 34, r 35, r 36, r 37, r 38, r 39, r 40, r 41, r 42, r 43, r 44, r 45, r 46, r 47]) ∧ L = [] ∧ 0 ≤ k ∧ k + m = l.length ∧ (∀ x ∈ l.take k.toNat, x < n))
    l.length ⟨0, exJ rfl, rfl, by omega, by omega, by simp⟩ ?_
  rintro m a L ⟨k, ⟨r, rfl⟩, rfl, h0', hm, hlt⟩ IH
  have hput := putL_at k.toNat l n hlt
  have htl : (l.take k.toNat).length = k.toNat := by rw [List.length_take]; omega
  have hdl : (l.drop k.toNat).length = l.length - k.toNat := List.length_drop
  refine W ?_
  (first | refine LS_gt rfl ?_ ?_ | refine LS_gf rfl ?_ ?_ | refine LI_cond rfl ?_ ?_) <;> intro hc <;> have hc' := hc <;> try simp only [decide_eq_true_eq, decide_eq_false_iff_not, Bool.not_eq_true', Bool.not_eq_false', Bool.not_eq_true, Bool.not_eq_false, beq_iff_eq, bne_iff_ne, beq_eq_false_iff_ne, bne_eq_false_iff_eq, Int.not_lt, Int.not_le, ge_iff_le, gt_iff_lt, not_and, ne_eq, Decidable.not_not] at hc'
  all_goals (try (dsimp only [st, setL, AV.cells, List.set_cons_zero, List.set_cons_succ, List.drop_zero, List.drop_succ_cons, List.take_zero, List.take_succ_cons, Nat.zero_add, Nat.add_zero, Nat.reduceAdd, List.cons_append, List.nil_append, List.eraseIdx_cons_zero, List.eraseIdx_cons_succ]))
  all_goals (refine W ?_)
  · obtain ⟨y, hy, hym, hd⟩ := drop_at (l := l) h0' hc'
    refine LS_ix (fun h' HL => hR.le HL.le) enI1 hy h0' rfl rfl fun q o hrow => ?_
    try (dsimp only [st, setL, AV.cells, List.set_cons_zero, List.set_cons_succ, List.drop_zero, List.drop_succ_cons, List.take_zero, List.take_succ_cons, Nat.zero_add, Nat.add_zero, Nat.reduceAdd, List.cons_append, List.nil_append, List.eraseIdx_cons_zero, List.eraseIdx_cons_succ])
    refine W ?_
    (first | refine LS_gt rfl ?_ ?_ | refine LS_gf rfl ?_ ?_ | refine LI_cond rfl ?_ ?_) <;> intro hc <;> have hc' := hc <;> try simp only [decide_eq_true_eq, decide_eq_false_iff_not, Bool.not_eq_true', Bool.not_eq_false', Bool.not_eq_true, Bool.not_eq_false, beq_iff_eq, bne_iff_ne, beq_eq_false_iff_ne, bne_eq_false_iff_eq, Int.not_lt, Int.not_le, ge_iff_le, gt_iff_lt, not_and, ne_eq, Decidable.not_not] at hc'
    all_goals (try (dsimp only [st, setL, AV.cells, List.set_cons_zero, List.set_cons_succ, List.drop_zero, List.drop_succ_cons, List.take_zero, List.take_succ_cons, Nat.zero_add, Nat.add_zero, Nat.reduceAdd, List.cons_append, List.nil_append, List.eraseIdx_cons_zero, List.eraseIdx_cons_succ]))
    all_goals (refine W ?_)
    · refine IH (m - 1) _ _ (by omega) ⟨k + 1, exJ rfl, rfl, by omega, by omega, by rw [toNat_succ h0']; exact take_lt hy hlt hc'⟩
    · have hny : ¬ y < n := by omega
      refine LS_ix (fun h' HL => hR.le HL.le) enI1 hy h0' rfl rfl fun q o hrow => ?_
      try (dsimp only [st, setL, AV.cells, List.set_cons_zero, List.set_cons_succ, List.drop_zero, List.drop_succ_cons, List.take_zero, List.take_succ_cons, Nat.zero_add, Nat.add_zero, Nat.reduceAdd, List.cons_append, List.nil_append, List.eraseIdx_cons_zero, List.eraseIdx_cons_succ])
      refine W ?_
      (first | refine LS_gt rfl ?_ ?_ | refine LS_gf rfl ?_ ?_ | refine LI_cond rfl ?_ ?_) <;> intro hc <;> have hc' := hc <;> try simp only [decide_eq_true_eq, decide_eq_false_iff_not, Bool.not_eq_true', Bool.not_eq_false', Bool.not_eq_true, Bool.not_eq_false, beq_iff_eq, bne_iff_ne, beq_eq_false_iff_ne, bne_eq_false_iff_eq, Int.not_lt, Int.not_le, ge_iff_le, gt_iff_lt, not_and, ne_eq, Decidable.not_not] at hc'
      all_goals (try (dsimp only [st, setL, AV.cells, List.set_cons_zero, List.set_cons_succ, List.drop_zero, List.drop_succ_cons, List.take_zero, List.take_succ_cons, Nat.zero_add, Nat.add_zero, Nat.reduceAdd, List.cons_append, List.nil_append, List.eraseIdx_cons_zero, List.eraseIdx_cons_succ]))
      all_goals (refine W ?_)
      · exact absurd (hc' ▸ hym) hnm
      · have e : putL l n = ([] ++ (l.take k.toNat).drop 0 ++ [n]) ++ (l.take l.length).drop k.toNat := by
          rw [hput, hd]
          simp only [putL, if_neg hny, if_neg hc']
          rw [← hd]
          simp
        refine LS_lt ([] : List Int) rfl rfl (by decide) rfl rfl rfl rfl enI1 rfl rfl fun lit1 hlit1 slit1 => ?_
        try (dsimp only [st, setL, AV.cells, List.set_cons_zero, List.set_cons_succ, List.drop_zero, List.drop_succ_cons, List.take_zero, List.take_succ_cons, Nat.zero_add, Nat.add_zero, Nat.reduceAdd, List.cons_append, List.nil_append, List.eraseIdx_cons_zero, List.eraseIdx_cons_succ])
        refine W ?_
        refine LS_sz (u := k.toNat) (fun h' HL => hR.le HL.le) enI1 (.inl ⟨rfl, rfl⟩) (.inr ⟨_, _, _, rfl, rfl, h0', rfl⟩) (by omega) (by omega) rfl fun w1 hw1 sw1 rw1 => ?_
        try (dsimp only [st, setL, AV.cells, List.set_cons_zero, List.set_cons_succ, List.drop_zero, List.drop_succ_cons, List.take_zero, List.take_succ_cons, Nat.zero_add, Nat.add_zero, Nat.reduceAdd, List.cons_append, List.nil_append, List.eraseIdx_cons_zero, List.eraseIdx_cons_succ])
        refine W ?_
        refine LS_ap0 0 rfl (fun h' HL => rw1 h' (hR.le HL.le)) enI1 (by decide) (by simp; omega) (by simp; omega) rfl rfl rfl fun w2 hw2 sw2 => ?_
        try (dsimp only [st, setL, AV.cells, List.set_cons_zero, List.set_cons_succ, List.drop_zero, List.drop_succ_cons, List.take_zero, List.take_succ_cons, Nat.zero_add, Nat.add_zero, Nat.reduceAdd, List.cons_append, List.nil_append, List.eraseIdx_cons_zero, List.eraseIdx_cons_succ])
        refine W ?_
        refine LS_lt [n] rfl rfl (by decide) rfl rfl rfl rfl enI1 rfl rfl fun lit4 hlit4 slit4 => ?_
        try (dsimp only [st, setL, AV.cells, List.set_cons_zero, List.set_cons_succ, List.drop_zero, List.drop_succ_cons, List.take_zero, List.take_succ_cons, Nat.zero_add, Nat.add_zero, Nat.reduceAdd, List.cons_append, List.nil_append, List.eraseIdx_cons_zero, List.eraseIdx_cons_succ])
        refine W ?_
        refine LS_ap 1 rfl (fun h' HL => HL.rdI 0 rfl enI1 (by decide)) enI1 (by decide) (by simp) (by simp; omega) (by simp; omega) rfl rfl rfl fun w5 hw5 sw5 => ?_
        try (dsimp only [st, setL, AV.cells, List.set_cons_zero, List.set_cons_succ, List.drop_zero, List.drop_succ_cons, List.take_zero, List.take_succ_cons, Nat.zero_add, Nat.add_zero, Nat.reduceAdd, List.cons_append, List.nil_append, List.eraseIdx_cons_zero, List.eraseIdx_cons_succ])
        refine W ?_
        refine LS_sz (u := l.length) (q := k.toNat) (fun h' HL => hR.le HL.le) enI1 (.inr ⟨_, _, _, rfl, rfl, h0', rfl⟩) (.inl ⟨rfl, rfl⟩) (by omega) (by omega) rfl fun w6 hw6 sw6 rw6 => ?_
        try (dsimp only [st, setL, AV.cells, List.set_cons_zero, List.set_cons_succ, List.drop_zero, List.drop_succ_cons, List.take_zero, List.take_succ_cons, Nat.zero_add, Nat.add_zero, Nat.reduceAdd, List.cons_append, List.nil_append, List.eraseIdx_cons_zero, List.eraseIdx_cons_succ])
        refine W ?_
        refine LS_ap0 1 rfl (fun h' HL => rw6 h' (hR.le HL.le)) enI1 (by decide) (by simp; omega) (by simp; omega) rfl rfl rfl fun w7 hw7 sw7 => ?_
        try (dsimp only [st, setL, AV.cells, List.set_cons_zero, List.set_cons_succ, List.drop_zero, List.drop_succ_cons, List.take_zero, List.take_succ_cons, Nat.zero_add, Nat.add_zero, Nat.reduceAdd, List.cons_append, List.nil_append, List.eraseIdx_cons_zero, List.eraseIdx_cons_succ])
        refine W ?_
        refine RET fun h' HL => ?_
        try dsimp only [oneA]
        rw [e]
        exact HL.ownI 1 rfl enI1 (by decide)
  · have hk : k.toNat = l.length := by omega
    have e : putL l n = ([] ++ (l.take k.toNat).drop 0 ++ [n]) ++ (l.take l.length).drop k.toNat := by
      rw [hput, hk]
      simp [putL]
    refine LS_lt ([] : List Int) rfl rfl (by decide) rfl rfl rfl rfl enI1 rfl rfl fun lit1 hlit1 slit1 => ?_
    try (dsimp only [st, setL, AV.cells, List.set_cons_zero, List.set_cons_succ, List.drop_zero, List.drop_succ_cons, List.take_zero, List.take_succ_cons, Nat.zero_add, Nat.add_zero, Nat.reduceAdd, List.cons_append, List.nil_append, List.eraseIdx_cons_zero, List.eraseIdx_cons_succ])
    refine W ?_
    refine LS_sz (u := k.toNat) (fun h' HL => hR.le HL.le) enI1 (.inl ⟨rfl, rfl⟩) (.inr ⟨_, _, _, rfl, rfl, h0', rfl⟩) (by omega) (by omega) rfl fun w1 hw1 sw1 rw1 => ?_
    try (dsimp only [st, setL, AV.cells, List.set_cons_zero, List.set_cons_succ, List.drop_zero, List.drop_succ_cons, List.take_zero, List.take_succ_cons, Nat.zero_add, Nat.add_zero, Nat.reduceAdd, List.cons_append, List.nil_append, List.eraseIdx_cons_zero, List.eraseIdx_cons_succ])
    refine W ?_
    refine LS_ap0 0 rfl (fun h' HL => rw1 h' (hR.le HL.le)) enI1 (by decide) (by simp; omega) (by simp; omega) rfl rfl rfl fun w2 hw2 sw2 => ?_
    try (dsimp only [st, setL, AV.cells, List.set_cons_zero, List.set_cons_succ, List.drop_zero, List.drop_succ_cons, List.take_zero, List.take_succ_cons, Nat.zero_add, Nat.add_zero, Nat.reduceAdd, List.cons_append, List.nil_append, List.eraseIdx_cons_zero, List.eraseIdx_cons_succ])
    refine W ?_
    refine LS_lt [n] rfl rfl (by decide) rfl rfl rfl rfl enI1 rfl rfl fun lit4 hlit4 slit4 => ?_
    try (dsimp only [st, setL, AV.cells, List.set_cons_zero, List.set_cons_succ, List.drop_zero, List.drop_succ_cons, List.take_zero, List.take_succ_cons, Nat.zero_add, Nat.add_zero, Nat.reduceAdd, List.cons_append, List.nil_append, List.eraseIdx_cons_zero, List.eraseIdx_cons_succ])
    refine W ?_
    refine LS_ap 1 rfl (fun h' HL => HL.rdI 0 rfl enI1 (by decide)) enI1 (by decide) (by simp) (by simp; omega) (by simp; omega) rfl rfl rfl fun w5 hw5 sw5 => ?_
    try (dsimp only [st, setL, AV.cells, List.set_cons_zero, List.set_cons_succ, List.drop_zero, List.drop_succ_cons, List.take_zero, List.take_succ_cons, Nat.zero_add, Nat.add_zero, Nat.reduceAdd, List.cons_append, List.nil_append, List.eraseIdx_cons_zero, List.eraseIdx_cons_succ])
    refine W ?_
    refine LS_sz (u := l.length) (q := k.toNat) (fun h' HL => hR.le HL.le) enI1 (.inr ⟨_, _, _, rfl, rfl, h0', rfl⟩) (.inl ⟨rfl, rfl⟩) (by omega) (by omega) rfl fun w6 hw6 sw6 rw6 => ?_
    try (dsimp only [st, setL, AV.cells, List.set_cons_zero, List.set_cons_succ, List.drop_zero, List.drop_succ_cons, List.take_zero, List.take_succ_cons, Nat.zero_add, Nat.add_zero, Nat.reduceAdd, List.cons_append, List.nil_append, List.eraseIdx_cons_zero, List.eraseIdx_cons_succ])
    refine W ?_
    refine LS_ap0 1 rfl (fun h' HL => rw6 h' (hR.le HL.le)) enI1 (by decide) (by simp; omega) (by simp; omega) rfl rfl rfl fun w7 hw7 sw7 => ?_
    try (dsimp only [st, setL, AV.cells, List.set_cons_zero, List.set_cons_succ, List.drop_zero, List.drop_succ_cons, List.take_zero, List.take_succ_cons, Nat.zero_add, Nat.add_zero, Nat.reduceAdd, List.cons_append, List.nil_append, List.eraseIdx_cons_zero, List.eraseIdx_cons_succ])
    refine W ?_
    refine RET fun h' HL => ?_
    try dsimp only [oneA]
    rw [e]
    exact HL.ownI 1 rfl enI1 (by decide)

/-! ### A slice of ints sorted by the library -/
open Go.Shelf in
def Try.mSort_ren : Go.Shelf.Ren := ⟨fun | 5 => 87 | 8 => 83 | 7 => 102 | 19 => 98 | 20 => 99 | 10 => 103 | 11 => 104 | 12 => 105 | 13 => 106 | 14 => 107 | 15 => 108 | 16 => 109 | 17 => 110 | 18 => 111 | 30 => 112 | 31 => 113 | 32 => 114 | 33 => 115 | 34 => 116 | 35 => 117 | 40 => 118 | n => n, fun | 23 => 22 | 25 => 3 | 3 => 3 | 32 => 67 | 22 => 22 | 0 => 0 | 44 => 75 | 46 => 59 | 4 => 4 | 36 => 80 | 35 => 79 | 41 => 40 | 5 => 5 | 9 => 9 | 53 => 84 | 57 => 88 | 63 => 90 | 64 => 44 | n => n, fun | n => n⟩
open Go.Shelf in
theorem Try.mSort : Go.Proofs.SlLaysM.n5 Try.prog Try.mSort_ren := {
  mixed := by kernel_rfl
  f5 := ⟨Try.f87.name, by decide, Try.func87.trans (congrArg some (by kernel_rfl))⟩
  f7 := ⟨Try.f102.name, by decide, Try.func102.trans (congrArg some (by kernel_rfl))⟩
  f8 := Try.func83.trans (congrArg some (by kernel_rfl))
  f10 := ⟨Try.f103.name, by decide, Try.func103.trans (congrArg some (by kernel_rfl))⟩
  f11 := ⟨Try.f104.name, by decide, Try.func104.trans (congrArg some (by kernel_rfl))⟩
  f12 := ⟨Try.f105.name, by decide, Try.func105.trans (congrArg some (by kernel_rfl))⟩
  f13 := ⟨Try.f106.name, by decide, Try.func106.trans (congrArg some (by kernel_rfl))⟩
  f14 := ⟨Try.f107.name, by decide, Try.func107.trans (congrArg some (by kernel_rfl))⟩
  f15 := ⟨Try.f108.name, by decide, Try.func108.trans (congrArg some (by kernel_rfl))⟩
  f16 := ⟨Try.f109.name, by decide, Try.func109.trans (congrArg some (by kernel_rfl))⟩
  f17 := ⟨Try.f110.name, by decide, Try.func110.trans (congrArg some (by kernel_rfl))⟩
  f18 := ⟨Try.f111.name, by decide, Try.func111.trans (congrArg some (by kernel_rfl))⟩
  f19 := Try.func98.trans (congrArg some (by kernel_rfl))
  f20 := Try.func99.trans (congrArg some (by kernel_rfl))
  f30 := ⟨Try.f112.name, by decide, Try.func112.trans (congrArg some (by kernel_rfl))⟩
  f31 := Try.func113.trans (congrArg some (by kernel_rfl))
  f32 := Try.func114.trans (congrArg some (by kernel_rfl))
  f33 := ⟨Try.f115.name, by decide, Try.func115.trans (congrArg some (by kernel_rfl))⟩
  f34 := ⟨Try.f116.name, by decide, Try.func116.trans (congrArg some (by kernel_rfl))⟩
  f35 := ⟨Try.f117.name, by decide, Try.func117.trans (congrArg some (by kernel_rfl))⟩
  f40 := ⟨Try.f118.name, by decide, Try.func118.trans (congrArg some (by kernel_rfl))⟩
  t0 := Try.underlying0
  a0 := Try.isAgg0
  z0 := Try.sizeOf0
  v0 := Try.zeroValue0
  t3 := Try.underlying3
  a3 := Try.isAgg3
  z3 := Try.sizeOf3
  v3 := Try.zeroValue3
  t4 := Try.underlying4
  a4 := Try.isAgg4
  z4 := Try.sizeOf4
  v4 := Try.zeroValue4
  t5 := Try.underlying5
  a5 := Try.isAgg5
  z5 := Try.sizeOf5
  v5 := Try.zeroValue5
  t9 := Try.underlying9
  a9 := Try.isAgg9
  z9 := Try.sizeOf9
  v9 := Try.zeroValue9
  t22 := Try.underlying22
  a22 := Try.isAgg22
  z22 := Try.sizeOf22
  v22 := Try.zeroValue22
  t23 := Try.underlying22
  a23 := Try.isAgg22
  z23 := Try.sizeOf22
  v23 := Try.zeroValue22
  t25 := Try.underlying3
  a25 := Try.isAgg3
  z25 := Try.sizeOf3
  v25 := Try.zeroValue3
  t32 := Try.underlying67
  a32 := Try.isAgg67
  z32 := Try.sizeOf67
  v32 := Try.zeroValue67
  t35 := Try.underlying79
  a35 := Try.isAgg79
  z35 := Try.sizeOf79
  v35 := Try.zeroValue79
  t36 := Try.underlying80
  a36 := Try.isAgg80
  z36 := Try.sizeOf80
  v36 := Try.zeroValue80
  t41 := Try.underlying40
  a41 := Try.isAgg40
  z41 := Try.sizeOf40
  v41 := Try.zeroValue40
  t44 := Try.underlying75
  a44 := Try.isAgg75
  z44 := Try.sizeOf75
  v44 := Try.zeroValue75
  t46 := Try.underlying59
  a46 := Try.isAgg59
  z46 := Try.sizeOf59
  v46 := Try.zeroValue59
  t53 := Try.underlying84
  a53 := Try.isAgg84
  z53 := Try.sizeOf84
  v53 := Try.zeroValue84
  t57 := Try.underlying88
  a57 := Try.isAgg88
  z57 := Try.sizeOf88
  v57 := Try.zeroValue88
  t63 := Try.underlying90
  a63 := Try.isAgg90
  z63 := Try.sizeOf90
  v63 := Try.zeroValue90
  t64 := Try.underlying44
  a64 := Try.isAgg44
  z64 := Try.sizeOf44
  v64 := Try.zeroValue44 }
theorem slSort_ac {h0 h : AH} {L : List It} {v : AV} {l : List Int} (HL : Loq h0 h (.sl v 1 (l.flatMap enI) :: L)) (hl : l.length < 4611686018427387904) :
    AC Try.prog 87 [v] h (fun r h' => ∃ M, (r = un ∧ M = .sl v 1 ((l.mergeSort fun x y => decide (x ≤ y)).flatMap enI) :: L) ∧ Loq h0 h' M) :=
  sort_ac ⟨_, Try.func87, by kernel_rfl, by kernel_rfl⟩ (fun blk off cap zs w hH hb hs => AnyM.slices_Sort_int Try.mSort blk off cap zs w hH hb hs) (fun p cap w => AnyM.slices_Sort_int_none Try.mSort p cap w) HL hl

/-! ### The ends of star chains -/
theorem rise_len : ∀ (l : List Int) (lo hi : Int), l.Pairwise (· < ·) → (∀ x ∈ l, lo ≤ x ∧ x ≤ hi) → lo ≤ hi + 1 → (l.length : Int) ≤ hi + 1 - lo
  | [], lo, hi, _, _, h => by simp; omega
  | x :: l, lo, hi, hp, hb, _ => by
    rw [List.pairwise_cons] at hp
    have hx := hb x (by simp)
    have := rise_len l (x + 1) hi hp.2 (fun y hy => ⟨by have := hp.1 y hy; omega, (hb y (by simp [hy])).2⟩) (by omega)
    simp only [List.length_cons]
    omega

theorem putN_in {n : Int} : ∀ {l : List Int}, l.Pairwise (· < ·) → n ∈ l → putN n l = l
  | [], _, h => by simp at h
  | x :: l, hp, h => by
    rw [List.pairwise_cons] at hp
    rw [putN]
    by_cases h1 : x < n
    · rw [if_pos h1]
      have : n ∈ l := by
        rcases List.mem_cons.1 h with e | e
        · omega
        · exact e
      rw [putN_in hp.2 this]
    · rw [if_neg h1]
      have : x = n := by
        rcases List.mem_cons.1 h with e | e
        · exact e.symm
        · have := hp.1 n e; omega
      rw [if_pos this]

theorem l1PutE_ac (l : List Int) (n : Int) (v : AV) (h0 h : AH) (L : List It) (HL : Loq h0 h (.sl v 1 (l.flatMap enI) :: L)) (hp : l.Pairwise (· < ·)) (hn : n ∈ l) (hl : l.length ≤ 1048576) :
    AC Try.prog 91 [v, .i .i64 n] h (fun r h' => ∃ M, (r = v ∧ M = .sl v 1 (l.flatMap enI) :: L) ∧ Loq h0 h' M) := by
  have hRl := (HL.rdI 0 rfl enI1 (by decide)).len
  have svv := rd_sc (HL.rdI 0 rfl enI1 (by decide))
  refine e91 _ _ fun wf => ?_
  unfold c91
  refine LI_startL HL ?_
  refine W ?_
  refine LIL_ind (fun m a L' => ∃ (k : Int), (∃ r : Nat → AV, a = [v, .i .i64 n, r 2, r 3, r 4, .i .i64 k, r 6, r 7, r 8, r 9, r 10, r 11, r 12, r 13, r 14, r 15, r 16, r 17, r 18, r 19, r 20, r 21, r 22, r 23, r 24, r 25, r 26, r 27, r 28, r 29, r 30, r 31, r 32, r 33, r 34, r 35, r 36, r 37, r 38, r 39, r 40, r 41, r 42, r 43, r 44, r 45, r 46, r 47]) ∧ L' = .sl v 1 (l.flatMap enI) :: L ∧ 0 ≤ k ∧ k + m = l.length ∧ n ∈ l.drop k.toNat)
    l.length ⟨0, exJ rfl, rfl, by omega, by omega, hn⟩ ?_
  rintro m a L' ⟨k, ⟨r, rfl⟩, rfl, h0', hm, hin⟩ IH
  refine W ?_
  (first | refine LS_gt rfl ?_ ?_ | refine LS_gf rfl ?_ ?_ | refine LI_cond rfl ?_ ?_) <;> intro hc <;> have hc' := hc <;> try simp only [decide_eq_true_eq, decide_eq_false_iff_not, Bool.not_eq_true', Bool.not_eq_false', Bool.not_eq_true, Bool.not_eq_false, beq_iff_eq, bne_iff_ne, beq_eq_false_iff_ne, bne_eq_false_iff_eq, Int.not_lt, Int.not_le, ge_iff_le, gt_iff_lt, not_and, ne_eq, Decidable.not_not] at hc'
  all_goals (try (dsimp only [st, setL, AV.cells, List.set_cons_zero, List.set_cons_succ, List.drop_zero, List.drop_succ_cons, List.take_zero, List.take_succ_cons, Nat.zero_add, Nat.add_zero, Nat.reduceAdd, List.cons_append, List.nil_append, List.eraseIdx_cons_zero, List.eraseIdx_cons_succ]))
  all_goals (refine W ?_)
  · obtain ⟨y, hy, hym, hd⟩ := drop_at (l := l) h0' hc'
    rw [hd] at hin
    have hpd : (l.drop k.toNat).Pairwise (· < ·) := hp.sublist (List.drop_sublist _ _)
    rw [hd, List.pairwise_cons] at hpd
    refine LS_ix (fun h' HL => HL.rdI 0 rfl enI1 (by decide)) enI1 hy h0' rfl rfl fun q o hrow => ?_
    try (dsimp only [st, setL, AV.cells, List.set_cons_zero, List.set_cons_succ, List.drop_zero, List.drop_succ_cons, List.take_zero, List.take_succ_cons, Nat.zero_add, Nat.add_zero, Nat.reduceAdd, List.cons_append, List.nil_append, List.eraseIdx_cons_zero, List.eraseIdx_cons_succ])
    refine W ?_
    (first | refine LS_gt rfl ?_ ?_ | refine LS_gf rfl ?_ ?_ | refine LI_cond rfl ?_ ?_) <;> intro hc <;> have hc' := hc <;> try simp only [decide_eq_true_eq, decide_eq_false_iff_not, Bool.not_eq_true', Bool.not_eq_false', Bool.not_eq_true, Bool.not_eq_false, beq_iff_eq, bne_iff_ne, beq_eq_false_iff_ne, bne_eq_false_iff_eq, Int.not_lt, Int.not_le, ge_iff_le, gt_iff_lt, not_and, ne_eq, Decidable.not_not] at hc'
    all_goals (try (dsimp only [st, setL, AV.cells, List.set_cons_zero, List.set_cons_succ, List.drop_zero, List.drop_succ_cons, List.take_zero, List.take_succ_cons, Nat.zero_add, Nat.add_zero, Nat.reduceAdd, List.cons_append, List.nil_append, List.eraseIdx_cons_zero, List.eraseIdx_cons_succ]))
    all_goals (refine W ?_)
    · refine IH (m - 1) _ _ (by omega) ⟨k + 1, exJ rfl, rfl, by omega, by omega, ?_⟩
      rw [toNat_succ h0']
      rcases List.mem_cons.1 hin with e | e
      · omega
      · exact e
    · have hyn : y = n := by
        rcases List.mem_cons.1 hin with e | e
        · exact e.symm
        · have := hpd.1 n e; omega
      refine LS_ix (fun h' HL => HL.rdI 0 rfl enI1 (by decide)) enI1 hy h0' rfl rfl fun q o hrow => ?_
      try (dsimp only [st, setL, AV.cells, List.set_cons_zero, List.set_cons_succ, List.drop_zero, List.drop_succ_cons, List.take_zero, List.take_succ_cons, Nat.zero_add, Nat.add_zero, Nat.reduceAdd, List.cons_append, List.nil_append, List.eraseIdx_cons_zero, List.eraseIdx_cons_succ])
      refine W ?_
      first | (refine LS_gyH rfl (by simp [hyn]) ?_; intro hg) | (refine LI_cond_tH rfl (by simp [hyn]) ?_; intro hg)
      refine W ?_
      refine RET fun h' HL => ?_
      try dsimp only [oneA]
      exact ⟨_, ⟨rfl, rfl⟩, HL⟩
  · exfalso
    rw [List.drop_eq_nil_of_le (by omega)] at hin
    simp at hin

theorem l1PutM_ac (l : List Int) (n : Int) (v : AV) (h0 h : AH) (L : List It) (HL : Loq h0 h (.sl v 1 (l.flatMap enI) :: L)) (hp : l.Pairwise (· < ·)) (hl : l.length ≤ 1048576) :
    AC Try.prog 91 [v, .i .i64 n] h (fun r h' => ∃ M, (lenA r = some (putN n l).length ∧ r.sc = true ∧ M = .sl r 1 ((putN n l).flatMap enI) :: L) ∧ Loq h0 h' M) := by
  have hR := HL.rdI 0 rfl enI1 (by decide)
  by_cases hn : n ∈ l
  · refine (l1PutE_ac l n v h0 h L HL hp hn hl).mono ?_
    rintro _ h' ⟨_, ⟨rfl, rfl⟩, HL'⟩
    rw [putN_in hp hn]
    exact ⟨_, ⟨hR.len, rd_sc hR, rfl⟩, HL'⟩
  · refine (l1PutN_ac l n v h hR hl hn).mono ?_
    intro r h' hO
    rw [← putNL] at hO
    exact ⟨_, ⟨hO.rd.len, rd_sc hO.rd, rfl⟩, (HL.call (hO.loc enI1)).sub (.cons_cons _ (.cons _ (.refl _)))⟩

theorem allE_bd : ∀ (k : Nat) (c : List Int), goodC c → ∀ n ∈ allE k c, 1 ≤ n ∧ n ≤ lastD c * 2 ^ k
  | 0, c, hg, n, hn => by
    rw [allE] at hn
    rw [List.mem_singleton.1 hn]
    have := hg.last
    omega
  | k + 1, c, hg, n, hn => by
    rw [allE, List.mem_flatMap] at hn
    obtain ⟨x, hx, hn⟩ := hn
    have h1 := allE_bd k _ (goodC_snoc hg hx) n hn
    rw [lastD_snoc] at h1
    have h2 := hg.2 x hx
    have hp : (0 : Int) ≤ 2 ^ k := Int.le_of_lt (Int.pow_pos (by decide))
    have h3 : (lastD c + x) * 2 ^ k ≤ (2 * lastD c) * 2 ^ k := Int.mul_le_mul_of_nonneg_right (by omega) hp
    have h4 : (2 * lastD c) * 2 ^ k = lastD c * 2 ^ (k + 1) := by rw [Int.pow_succ, Int.mul_comm 2, Int.mul_assoc, Int.mul_comm 2]
    omega

theorem foldP_bd {es l : List Int} (h1 : ∀ x ∈ es, 1 ≤ x ∧ x ≤ 64) (h2 : ∀ x ∈ l, 1 ≤ x ∧ x ≤ 64) : ∀ x ∈ es.foldl (fun l n => putN n l) l, 1 ≤ x ∧ x ≤ 64 := by
  intro x hx
  rcases (foldP_mem es l).1 hx with h | h
  · exact h1 x h
  · exact h2 x h

theorem half_ok {y x : Int} {k : Nat} (hy : 1 ≤ y) (hx : 0 ≤ x ∧ x ≤ y) (h : y * 2 ^ (k + 1) ≤ 64) : (y + x) * 2 ^ k ≤ 64 ∧ y ≤ 32 := by
  have hp : (1 : Int) ≤ 2 ^ k := Int.pow_pos (by decide)
  have h3 : (y + x) * 2 ^ k ≤ (2 * y) * 2 ^ k := Int.mul_le_mul_of_nonneg_right (by omega) (by omega)
  have h4 : (2 * y) * 2 ^ k = y * 2 ^ (k + 1) := by rw [Int.pow_succ, Int.mul_comm 2, Int.mul_assoc, Int.mul_comm 2]
  have h5 : (2 * y) * 1 ≤ (2 * y) * 2 ^ k := Int.mul_le_mul_of_nonneg_left hp (by omega)
  omega

theorem shEnds_ac : ∀ (k : Nat) (z : Int) (c l : List Int) (u v : AV) (h0 h : AH) (L : List It), z = k → c.length + k ≤ 7 → goodC c → lastD c * 2 ^ k ≤ 64 → l.Pairwise (· < ·) → (∀ x ∈ l, 1 ≤ x ∧ x ≤ 64) → (∀ h', Loq h0 h' L → Rd h' u c) → Loq h0 h (.sl v 1 (l.flatMap enI) :: L) →
    AC Try.prog 85 [u, .i .i64 z, v] h (fun r h' => ∃ M, (lenA r = some ((allE k c).foldl (fun l n => putN n l) l).length ∧ r.sc = true ∧ M = .sl r 1 (((allE k c).foldl (fun l n => putN n l) l).flatMap enI) :: L) ∧ Loq h0 h' M)
  | 0, z, c, l, u, v, h0, h, L, hz, hk, hgc, h64, hp, hb, hu, HL => by
    have hR := hu h HL.tail
    have hln := hR.len
    have hcl : 0 < c.length := List.length_pos_iff.2 hgc.1
    have hll := rise_len l 1 64 hp hb (by omega)
    have svv := rd_sc (HL.rdI 0 rfl enI1 (by decide))
    refine e85 _ _ _ fun wf => ?_
    unfold c85
    refine LI_startL HL ?_
    refine W ?_
    refine LS_ix (y := lastD c) (fun h' HL' => hu h' HL'.tail) enI1 (lastD_at hgc) (by omega) rfl rfl fun q1 o1 hrow1 => ?_
    try (dsimp only [st, setL, AV.cells, List.set_cons_zero, List.set_cons_succ, List.drop_zero, List.drop_succ_cons, List.take_zero, List.take_succ_cons, Nat.zero_add, Nat.add_zero, Nat.reduceAdd, List.cons_append, List.nil_append, List.eraseIdx_cons_zero, List.eraseIdx_cons_succ])
    refine W ?_
    first | (refine LS_gyH rfl (by simp [hz]) ?_; intro hg) | (refine LI_cond_tH rfl (by simp [hz]) ?_; intro hg)
    refine W ?_
    refine LS_cm (.refl _) (fun h' HL' wf => l1PutM_ac l (lastD c) v h0 h' L HL' hp (by omega)) rfl rfl ?_
    try (dsimp only [st, setL, AV.cells, List.set_cons_zero, List.set_cons_succ, List.drop_zero, List.drop_succ_cons, List.take_zero, List.take_succ_cons, Nat.zero_add, Nat.add_zero, Nat.reduceAdd, List.cons_append, List.nil_append, List.eraseIdx_cons_zero, List.eraseIdx_cons_succ])
    refine W ?_
    rintro r _ ⟨lr, sr, rfl⟩
    try (dsimp only [st, setL, AV.cells, List.set_cons_zero, List.set_cons_succ, List.drop_zero, List.drop_succ_cons, List.take_zero, List.take_succ_cons, Nat.zero_add, Nat.add_zero, Nat.reduceAdd, List.cons_append, List.nil_append, List.eraseIdx_cons_zero, List.eraseIdx_cons_succ])
    refine W ?_
    refine RET fun h' HL => ?_
    try dsimp only [oneA]
    exact ⟨_, ⟨lr, sr, rfl⟩, HL⟩
  | k + 1, z, c, l, u, v, h0, h, L, hz, hk, hgc, h64, hp, hb, hu, HL => by
    have hR := hu h HL.tail
    have hln := hR.len
    have hcl : 0 < c.length := List.length_pos_iff.2 hgc.1
    have hl1 := hgc.last
    have svv := rd_sc (HL.rdI 0 rfl enI1 (by decide))
    have lvv := (HL.rdI 0 rfl enI1 (by decide)).len
    obtain ⟨A, hA⟩ : ∃ A : Nat → List Int, A = fun m => ((c.take m).flatMap fun x => allE k (c ++ [lastD c + x])).foldl (fun l n => putN n l) l := ⟨_, rfl⟩
    have hA0 : A 0 = l := by rw [hA]; simp
    have hAs : ∀ (m : Nat) (x : Int), c[m]? = some x → (allE k (c ++ [lastD c + x])).foldl (fun l n => putN n l) (A m) = A (m + 1) := by
      intro m x hx
      rw [hA]
      show _ = ((c.take (m + 1)).flatMap _).foldl _ _
      rw [take_snoc hx, List.flatMap_append, List.foldl_append]
      simp
    have hAend : A c.length = (allE (k + 1) c).foldl (fun l n => putN n l) l := by
      rw [hA]
      show ((c.take c.length).flatMap _).foldl _ _ = _
      rw [List.take_length]; rfl
    have hAg : ∀ m, (A m).Pairwise (· < ·) ∧ ∀ x ∈ A m, 1 ≤ x ∧ x ≤ 64 := by
      intro m
      rw [hA]
      refine ⟨foldP_sorted _ _ hp, foldP_bd (fun n hn => ?_) hb⟩
      obtain ⟨x, hx, hn⟩ := List.mem_flatMap.1 hn
      have hxc := List.mem_of_mem_take hx
      have h1 := allE_bd k _ (goodC_snoc hgc hxc) n hn
      rw [lastD_snoc] at h1
      have h2 := hgc.2 x hxc
      have h3 := half_ok (y := lastD c) (x := x) (k := k) (by omega) (by omega) h64
      omega
    refine e85 _ _ _ fun wf => ?_
    unfold c85
    refine LI_startL HL ?_
    refine W ?_
    refine LS_ix (y := lastD c) (fun h' HL' => hu h' HL'.tail) enI1 (lastD_at hgc) (by omega) rfl rfl fun q1 o1 hrow1 => ?_
    try (dsimp only [st, setL, AV.cells, List.set_cons_zero, List.set_cons_succ, List.drop_zero, List.drop_succ_cons, List.take_zero, List.take_succ_cons, Nat.zero_add, Nat.add_zero, Nat.reduceAdd, List.cons_append, List.nil_append, List.eraseIdx_cons_zero, List.eraseIdx_cons_succ])
    refine W ?_
    first | (refine LS_gtnH rfl (decide_eq_false (by omega)) ?_; intro hg; try (dsimp only [st, setL, AV.cells, List.set_cons_zero, List.set_cons_succ, List.drop_zero, List.drop_succ_cons, List.take_zero, List.take_succ_cons, Nat.zero_add, Nat.add_zero, Nat.reduceAdd, List.cons_append, List.nil_append, List.eraseIdx_cons_zero, List.eraseIdx_cons_succ])) | (refine LS_gfnH rfl (decide_eq_false (by omega)) ?_; intro hg; try (dsimp only [st, setL, AV.cells, List.set_cons_zero, List.set_cons_succ, List.drop_zero, List.drop_succ_cons, List.take_zero, List.take_succ_cons, Nat.zero_add, Nat.add_zero, Nat.reduceAdd, List.cons_append, List.nil_append, List.eraseIdx_cons_zero, List.eraseIdx_cons_succ])) | (refine LI_cond_fH rfl (decide_eq_false (by omega)) ?_; intro hg)
    refine W ?_
    refine LIL_ind (fun j a L' => ∃ (o : AV) (i : Int), (∃ r : Nat → AV, a = [u, .i .i64 z, o, r 3, r 4, r 5, r 6, .i .i64 (lastD c), r 8, r 9, r 10, r 11, r 12, r 13, r 14, r 15, r 16, r 17, r 18, r 19, r 20, u, .i .i64 c.length, .i .i64 i, r 24, r 25, r 26, r 27, r 28, r 29, r 30, r 31, r 32, r 33, r 34, r 35, r 36, r 37, r 38, r 39]) ∧ L' = .sl o 1 ((A i.toNat).flatMap enI) :: L ∧ 0 ≤ i ∧ i + j = c.length ∧ lenA o = some (A i.toNat).length ∧ o.sc = true)
      c.length ⟨v, 0, exJ rfl, by rw [show (0 : Int).toNat = 0 from rfl, hA0], by omega, by omega, by rw [show (0 : Int).toNat = 0 from rfl, hA0]; exact lvv, svv⟩ ?_
    rintro j a _ ⟨o, i, ⟨r, rfl⟩, rfl, h0', hj, lo, so⟩ IH
    refine W ?_
    (first | refine LS_gt rfl ?_ ?_ | refine LS_gf rfl ?_ ?_ | refine LI_cond rfl ?_ ?_) <;> intro hc <;> have hc' := hc <;> try simp only [decide_eq_true_eq, decide_eq_false_iff_not, Bool.not_eq_true', Bool.not_eq_false', Bool.not_eq_true, Bool.not_eq_false, beq_iff_eq, bne_iff_ne, beq_eq_false_iff_ne, bne_eq_false_iff_eq, Int.not_lt, Int.not_le, ge_iff_le, gt_iff_lt, not_and, ne_eq, Decidable.not_not] at hc'
    all_goals (try (dsimp only [st, setL, AV.cells, List.set_cons_zero, List.set_cons_succ, List.drop_zero, List.drop_succ_cons, List.take_zero, List.take_succ_cons, Nat.zero_add, Nat.add_zero, Nat.reduceAdd, List.cons_append, List.nil_append, List.eraseIdx_cons_zero, List.eraseIdx_cons_succ]))
    all_goals (refine W ?_)
    · obtain ⟨x, hx, hxm, _⟩ := drop_at (l := c) h0' hc'
      have hxb := hgc.2 x hxm
      have hhf := half_ok (y := lastD c) (x := x) (k := k) (by omega) (by omega) h64
      refine LS_ix (fun h' HL' => hu h' HL'.tail) enI1 hx h0' rfl rfl fun q2 o2 hrow2 => ?_
      try (dsimp only [st, setL, AV.cells, List.set_cons_zero, List.set_cons_succ, List.drop_zero, List.drop_succ_cons, List.take_zero, List.take_succ_cons, Nat.zero_add, Nat.add_zero, Nat.reduceAdd, List.cons_append, List.nil_append, List.eraseIdx_cons_zero, List.eraseIdx_cons_succ])
      refine W ?_
      refine LS_co (fun h' HL' wf => l1Own_ac c u h' (hu h' HL'.tail) (by omega)) enI1 rfl rfl fun w1 lw1 sw1 => ?_
      try (dsimp only [st, setL, AV.cells, List.set_cons_zero, List.set_cons_succ, List.drop_zero, List.drop_succ_cons, List.take_zero, List.take_succ_cons, Nat.zero_add, Nat.add_zero, Nat.reduceAdd, List.cons_append, List.nil_append, List.eraseIdx_cons_zero, List.eraseIdx_cons_succ])
      refine W ?_
      refine LS_lt [lastD c + x] rfl rfl (by decide) rfl rfl rfl rfl enI1 rfl rfl fun w2 lw2 sw2 => ?_
      try (dsimp only [st, setL, AV.cells, List.set_cons_zero, List.set_cons_succ, List.drop_zero, List.drop_succ_cons, List.take_zero, List.take_succ_cons, Nat.zero_add, Nat.add_zero, Nat.reduceAdd, List.cons_append, List.nil_append, List.eraseIdx_cons_zero, List.eraseIdx_cons_succ])
      refine W ?_
      refine LS_ap 1 rfl (fun h' HL' => HL'.rdI 0 rfl enI1 (by decide)) enI1 (by decide) (by simp) (by simp; omega) (by simp; omega) rfl rfl rfl fun w3 lw3 sw3 => ?_
      try (dsimp only [st, setL, AV.cells, List.set_cons_zero, List.set_cons_succ, List.drop_zero, List.drop_succ_cons, List.take_zero, List.take_succ_cons, Nat.zero_add, Nat.add_zero, Nat.reduceAdd, List.cons_append, List.nil_append, List.eraseIdx_cons_zero, List.eraseIdx_cons_succ])
      refine W ?_
      refine LS_cm (List.perm_middle (l₁ := [_, _])) (fun h' HL' wf => shEnds_ac k (z - 1) (c ++ [lastD c + x]) (A i.toNat) w3 o h0 h' (.sl w2 1 ([lastD c + x].flatMap enI) :: .sl w3 1 ((c ++ [lastD c + x]).flatMap enI) :: L) (by omega) (by simp; omega) (goodC_snoc hgc hxm) (by rw [lastD_snoc]; exact hhf.1) (hAg _).1 (hAg _).2 (fun h2 HL2 => HL2.rdI 1 rfl enI1 (by decide)) HL') rfl rfl ?_
      try (dsimp only [st, setL, AV.cells, List.set_cons_zero, List.set_cons_succ, List.drop_zero, List.drop_succ_cons, List.take_zero, List.take_succ_cons, Nat.zero_add, Nat.add_zero, Nat.reduceAdd, List.cons_append, List.nil_append, List.eraseIdx_cons_zero, List.eraseIdx_cons_succ])
      refine W ?_
      rintro r _ ⟨lr, sr, rfl⟩
      try (dsimp only [st, setL, AV.cells, List.set_cons_zero, List.set_cons_succ, List.drop_zero, List.drop_succ_cons, List.take_zero, List.take_succ_cons, Nat.zero_add, Nat.add_zero, Nat.reduceAdd, List.cons_append, List.nil_append, List.eraseIdx_cons_zero, List.eraseIdx_cons_succ])
      rw [hAs _ _ hx] at lr ⊢
      refine W ?_
      refine LIL_sub (L' := .sl r 1 ((A (i.toNat + 1)).flatMap enI) :: L) (.cons_cons _ (.cons _ (.cons _ (.refl _)))) ?_
      refine IH (j - 1) _ _ (by omega) ⟨r, i + 1, exJ rfl, by rw [toNat_succ h0'], by omega, by omega, by rw [toNat_succ h0']; exact lr, sr⟩
    · have ei : i.toNat = c.length := by omega
      rw [ei, hAend] at lo ⊢
      refine RET fun h' HL => ?_
      try dsimp only [oneA]
      exact ⟨_, ⟨lo, so, rfl⟩, HL⟩

/-! ### The program's ends of star chains -/
def putB (es : List (Int × AV)) (n : Int) : List (Int × AV) := putI n (.b true) es

theorem ends_ac : ∀ (k : Nat) (z : Int) (c : List Int) (es : List (Int × AV)) (u : AV) (rm : Nat) (h0 h : AH) (L : List It), z = k → c.length + k ≤ 7 → goodC c → lastD c * 2 ^ k ≤ 64 → (∀ h', Loq h0 h' L → Rd h' u c) → Loq h0 h (.mp rm (mpI es) :: L) →
    AC Try.prog 86 [.i .i64 z, u, .m rm] h (fun q h' => ∃ M, (q = un ∧ M = .mp rm (mpI ((allE k c).foldl putB es)) :: L) ∧ Loq h0 h' M)
  | 0, z, c, es, u, rm, h0, h, L, hz, hk, hgc, h64, hu, HL => by
    have hR := hu h HL.tail
    have hln := hR.len
    have hcl : 0 < c.length := List.length_pos_iff.2 hgc.1
    refine e86 _ _ _ fun wf => ?_
    unfold c86
    refine LI_startL HL ?_
    refine W ?_
    refine LS_ix (y := lastD c) (fun h' HL' => hu h' HL'.tail) enI1 (lastD_at hgc) (by omega) rfl rfl fun q1 o1 hrow1 => ?_
    try (dsimp only [st, setL, AV.cells, List.set_cons_zero, List.set_cons_succ, List.drop_zero, List.drop_succ_cons, List.take_zero, List.take_succ_cons, Nat.zero_add, Nat.add_zero, Nat.reduceAdd, List.cons_append, List.nil_append, List.eraseIdx_cons_zero, List.eraseIdx_cons_succ])
    refine W ?_
    first | (refine LS_gyH rfl (by simp [hz]) ?_; intro hg) | (refine LI_cond_tH rfl (by simp [hz]) ?_; intro hg)
    refine W ?_
    refine LS_mput 0 Try.underlying69 Try.underlying3 rfl rfl rfl rfl ?_
    try (dsimp only [st, setL, AV.cells, List.set_cons_zero, List.set_cons_succ, List.drop_zero, List.drop_succ_cons, List.take_zero, List.take_succ_cons, Nat.zero_add, Nat.add_zero, Nat.reduceAdd, List.cons_append, List.nil_append, List.eraseIdx_cons_zero, List.eraseIdx_cons_succ])
    refine W ?_
    refine RET fun h' HL => ?_
    try dsimp only [oneA]
    exact ⟨_, ⟨rfl, rfl⟩, HL⟩
  | k + 1, z, c, es, u, rm, h0, h, L, hz, hk, hgc, h64, hu, HL => by
    have hR := hu h HL.tail
    have hln := hR.len
    have hcl : 0 < c.length := List.length_pos_iff.2 hgc.1
    have hl1 := hgc.last
    obtain ⟨A, hA⟩ : ∃ A : Nat → List (Int × AV), A = fun m => ((c.take m).flatMap fun x => allE k (c ++ [lastD c + x])).foldl putB es := ⟨_, rfl⟩
    have hA0 : A 0 = es := by rw [hA]; simp
    have hAs : ∀ (m : Nat) (x : Int), c[m]? = some x → (allE k (c ++ [lastD c + x])).foldl putB (A m) = A (m + 1) := by
      intro m x hx
      rw [hA]
      show _ = ((c.take (m + 1)).flatMap _).foldl _ _
      rw [take_snoc hx, List.flatMap_append, List.foldl_append]
      simp
    have hAend : A c.length = (allE (k + 1) c).foldl putB es := by
      rw [hA]
      show ((c.take c.length).flatMap _).foldl _ _ = _
      rw [List.take_length]; rfl
    refine e86 _ _ _ fun wf => ?_
    unfold c86
    refine LI_startL HL ?_
    refine W ?_
    refine LS_ix (y := lastD c) (fun h' HL' => hu h' HL'.tail) enI1 (lastD_at hgc) (by omega) rfl rfl fun q1 o1 hrow1 => ?_
    try (dsimp only [st, setL, AV.cells, List.set_cons_zero, List.set_cons_succ, List.drop_zero, List.drop_succ_cons, List.take_zero, List.take_succ_cons, Nat.zero_add, Nat.add_zero, Nat.reduceAdd, List.cons_append, List.nil_append, List.eraseIdx_cons_zero, List.eraseIdx_cons_succ])
    refine W ?_
    first | (refine LS_gtnH rfl (decide_eq_false (by omega)) ?_; intro hg; try (dsimp only [st, setL, AV.cells, List.set_cons_zero, List.set_cons_succ, List.drop_zero, List.drop_succ_cons, List.take_zero, List.take_succ_cons, Nat.zero_add, Nat.add_zero, Nat.reduceAdd, List.cons_append, List.nil_append, List.eraseIdx_cons_zero, List.eraseIdx_cons_succ])) | (refine LS_gfnH rfl (decide_eq_false (by omega)) ?_; intro hg; try (dsimp only [st, setL, AV.cells, List.set_cons_zero, List.set_cons_succ, List.drop_zero, List.drop_succ_cons, List.take_zero, List.take_succ_cons, Nat.zero_add, Nat.add_zero, Nat.reduceAdd, List.cons_append, List.nil_append, List.eraseIdx_cons_zero, List.eraseIdx_cons_succ])) | (refine LI_cond_fH rfl (decide_eq_false (by omega)) ?_; intro hg)
    refine W ?_
    refine LIL_ind (fun j a L' => ∃ (i : Int), (∃ r : Nat → AV, a = [.i .i64 z, u, .m rm, r 3, r 4, r 5, .i .i64 (lastD c), r 7, r 8, r 9, r 10, r 11, r 12, r 13, r 14, r 15, r 16, r 17, r 18, u, .i .i64 c.length, .i .i64 i, r 22, r 23, r 24, r 25, r 26, r 27, r 28, r 29, r 30, r 31, r 32, r 33, r 34, r 35, r 36]) ∧ L' = .mp rm (mpI (A i.toNat)) :: L ∧ 0 ≤ i ∧ i + j = c.length)
      c.length ⟨0, exJ rfl, by rw [show (0 : Int).toNat = 0 from rfl, hA0], by omega, by omega⟩ ?_
    rintro j a _ ⟨i, ⟨r, rfl⟩, rfl, h0', hj⟩ IH
    refine W ?_
    (first | refine LS_gt rfl ?_ ?_ | refine LS_gf rfl ?_ ?_ | refine LI_cond rfl ?_ ?_) <;> intro hc <;> have hc' := hc <;> try simp only [decide_eq_true_eq, decide_eq_false_iff_not, Bool.not_eq_true', Bool.not_eq_false', Bool.not_eq_true, Bool.not_eq_false, beq_iff_eq, bne_iff_ne, beq_eq_false_iff_ne, bne_eq_false_iff_eq, Int.not_lt, Int.not_le, ge_iff_le, gt_iff_lt, not_and, ne_eq, Decidable.not_not] at hc'
    all_goals (try (dsimp only [st, setL, AV.cells, List.set_cons_zero, List.set_cons_succ, List.drop_zero, List.drop_succ_cons, List.take_zero, List.take_succ_cons, Nat.zero_add, Nat.add_zero, Nat.reduceAdd, List.cons_append, List.nil_append, List.eraseIdx_cons_zero, List.eraseIdx_cons_succ]))
    all_goals (refine W ?_)
    · obtain ⟨x, hx, hxm, _⟩ := drop_at (l := c) h0' hc'
      have hxb := hgc.2 x hxm
      have hhf := half_ok (y := lastD c) (x := x) (k := k) (by omega) (by omega) h64
      refine LS_ix (fun h' HL' => hu h' HL'.tail) enI1 hx h0' rfl rfl fun q2 o2 hrow2 => ?_
      try (dsimp only [st, setL, AV.cells, List.set_cons_zero, List.set_cons_succ, List.drop_zero, List.drop_succ_cons, List.take_zero, List.take_succ_cons, Nat.zero_add, Nat.add_zero, Nat.reduceAdd, List.cons_append, List.nil_append, List.eraseIdx_cons_zero, List.eraseIdx_cons_succ])
      refine W ?_
      refine LS_c0 (fun h' HL' wf => Clip_ac c u h' (hu h' HL'.tail) (by omega)) rfl rfl ?_
      try (dsimp only [st, setL, AV.cells, List.set_cons_zero, List.set_cons_succ, List.drop_zero, List.drop_succ_cons, List.take_zero, List.take_succ_cons, Nat.zero_add, Nat.add_zero, Nat.reduceAdd, List.cons_append, List.nil_append, List.eraseIdx_cons_zero, List.eraseIdx_cons_succ])
      refine W ?_
      refine LS_lt [lastD c + x] rfl rfl (by decide) rfl rfl rfl rfl enI1 rfl rfl fun w2 lw2 sw2 => ?_
      try (dsimp only [st, setL, AV.cells, List.set_cons_zero, List.set_cons_succ, List.drop_zero, List.drop_succ_cons, List.take_zero, List.take_succ_cons, Nat.zero_add, Nat.add_zero, Nat.reduceAdd, List.cons_append, List.nil_append, List.eraseIdx_cons_zero, List.eraseIdx_cons_succ])
      refine W ?_
      refine LS_o (LO_apc (clipA_c hR) (fun h' HL' => clipA_rd (hu h' HL'.tail.tail)) (fun h' HL' => HL'.rdI 0 rfl enI1 (by decide)) enI1 (by decide) (by simp) (by simp; omega) (by simp; omega) rfl rfl rfl fun w3 lw3 sw3 => ?_)
      try (dsimp only [st, setL, AV.cells, List.set_cons_zero, List.set_cons_succ, List.drop_zero, List.drop_succ_cons, List.take_zero, List.take_succ_cons, Nat.zero_add, Nat.add_zero, Nat.reduceAdd, List.cons_append, List.nil_append, List.eraseIdx_cons_zero, List.eraseIdx_cons_succ])
      refine W ?_
      refine LS_cm (List.perm_middle (l₁ := [_, _])) (fun h' HL' wf => ends_ac k (z - 1) (c ++ [lastD c + x]) (A i.toNat) w3 rm h0 h' (.sl w3 1 ((c ++ [lastD c + x]).flatMap enI) :: .sl w2 1 ([lastD c + x].flatMap enI) :: L) (by omega) (by simp; omega) (goodC_snoc hgc hxm) (by rw [lastD_snoc]; exact hhf.1) (fun h2 HL2 => HL2.rdI 0 rfl enI1 (by decide)) HL') rfl rfl ?_
      try (dsimp only [st, setL, AV.cells, List.set_cons_zero, List.set_cons_succ, List.drop_zero, List.drop_succ_cons, List.take_zero, List.take_succ_cons, Nat.zero_add, Nat.add_zero, Nat.reduceAdd, List.cons_append, List.nil_append, List.eraseIdx_cons_zero, List.eraseIdx_cons_succ])
      refine W ?_
      rintro _ _ ⟨rfl, rfl⟩
      try (dsimp only [st, setL, AV.cells, List.set_cons_zero, List.set_cons_succ, List.drop_zero, List.drop_succ_cons, List.take_zero, List.take_succ_cons, Nat.zero_add, Nat.add_zero, Nat.reduceAdd, List.cons_append, List.nil_append, List.eraseIdx_cons_zero, List.eraseIdx_cons_succ])
      rw [hAs _ _ hx]
      refine W ?_
      refine LIL_sub (L' := .mp rm (mpI (A (i.toNat + 1))) :: L) (.cons_cons _ (.cons _ (.cons _ (.refl _)))) ?_
      refine IH (j - 1) _ _ (by omega) ⟨i + 1, exJ rfl, by rw [toNat_succ h0'], by omega, by omega⟩
    · have ei : i.toNat = c.length := by omega
      rw [ei, hAend]
      exact LRet_n fun h' HL => ⟨[], rfl, _, ⟨rfl, rfl⟩, HL⟩

theorem putB_keys {n : Int} (m : Int) : ∀ (es : List (Int × AV)), n ∈ (putB es m).map (·.1) ↔ n = m ∨ n ∈ es.map (·.1)
  | [] => by simp [putB, putI]
  | x :: es => by
    have ih := putB_keys (n := n) m es
    unfold putB at ih ⊢
    rw [putI]
    split
    · rename_i h; simp [h]
    · rw [List.map_cons, List.mem_cons, ih, List.map_cons, List.mem_cons]
      constructor
      · rintro (h | h | h) <;> simp [h]
      · rintro (h | h | h) <;> simp [h]

theorem putB_nodup (m : Int) : ∀ (es : List (Int × AV)), (es.map (·.1)).Nodup → ((putB es m).map (·.1)).Nodup
  | [], _ => by simp [putB, putI]
  | x :: es, h => by
    have ih := putB_nodup m es
    rw [List.map_cons, List.nodup_cons] at h
    have hk := putB_keys (n := x.1) m es
    unfold putB at ih hk ⊢
    rw [putI]
    split
    · rename_i e; rw [List.map_cons, List.nodup_cons]; rw [e] at h; exact h
    · rename_i e
      rw [List.map_cons, List.nodup_cons]
      refine ⟨fun hx => ?_, ih h.2⟩
      rcases hk.1 hx with h1 | h1
      · exact e h1
      · exact h.1 h1

theorem foldB_keys {n : Int} : ∀ (l : List Int) (es : List (Int × AV)), n ∈ (l.foldl putB es).map (·.1) ↔ n ∈ l ∨ n ∈ es.map (·.1)
  | [], es => by simp
  | m :: l, es => by
    rw [List.foldl_cons, foldB_keys l, putB_keys, List.mem_cons]
    constructor
    · rintro (h | h | h) <;> simp [h]
    · rintro ((h | h) | h) <;> simp [h]

theorem foldB_nodup : ∀ (l : List Int) (es : List (Int × AV)), (es.map (·.1)).Nodup → ((l.foldl putB es).map (·.1)).Nodup
  | [], es, h => h
  | m :: l, es, h => foldB_nodup l _ (putB_nodup m es h)

/-- The keys of the map, in whatever order they come up, sorted. -/
theorem keys_sorted (k : Nat) (out : List Int) (hn : out.Nodup) (hm : ∀ n, n ∈ out ↔ n ∈ ((allE k [1]).foldl putB []).map (·.1)) : (out.mergeSort fun x y => decide (x ≤ y)) = endsL k := by
  have hp := List.mergeSort_perm out (fun x y => decide (x ≤ y))
  have hs : (out.mergeSort fun x y => decide (x ≤ y)).Pairwise (· ≤ ·) := by
    have := List.pairwise_mergeSort (le := fun x y : Int => decide (x ≤ y)) (fun a b c h1 h2 => by simp at *; omega) (fun a b => by simp; omega) out
    exact this.imp (by intro a b h; simpa using h)
  have hnd : (out.mergeSort fun x y => decide (x ≤ y)).Nodup := hp.nodup_iff.2 hn
  refine rise_ext _ _ ?_ (endsL_sorted k) fun n => ?_
  · exact (hs.and hnd).imp fun h => by omega
  · rw [hp.mem_iff, hm, foldB_keys, endsL, foldP_mem]
    simp

def seR (len : Int) : List Int := if decide (0 ≤ len ∧ len ≤ 6) = true then endsL len.toNat else []

def seOk (len : Int) : Bool := decide (0 ≤ len ∧ len ≤ 6)

theorem pow_64 : ∀ k : Nat, k < 7 → (1 : Int) * 2 ^ k ≤ 64 := by decide

theorem specSE_ac (len : Int) (h : AH) : AC Try.prog 52 [.i .i64 len] h (fun r h' => ∃ M, TupI (seR len) (seOk len) r M ∧ Loq h h' M) := by
  refine e52 _ fun wf => ?_
  unfold c52
  refine LI_start wf ?_
  refine W ?_
  refine LS_c0' (fun h' HL wf => l1In_ac len 0 6 h') rfl rfl ?_
  try (dsimp only [st, setL, AV.cells, List.set_cons_zero, List.set_cons_succ, List.drop_zero, List.drop_succ_cons, List.take_zero, List.take_succ_cons, Nat.zero_add, Nat.add_zero, Nat.reduceAdd, List.cons_append, List.nil_append, List.eraseIdx_cons_zero, List.eraseIdx_cons_succ])
  refine W ?_
  (first | refine LS_gt rfl ?_ ?_ | refine LS_gf rfl ?_ ?_ | refine LI_cond rfl ?_ ?_) <;> intro hc <;> have hc' := hc <;> try simp only [decide_eq_true_eq, decide_eq_false_iff_not, Bool.not_eq_true', Bool.not_eq_false', Bool.not_eq_true, Bool.not_eq_false, beq_iff_eq, bne_iff_ne, beq_eq_false_iff_ne, bne_eq_false_iff_eq, Int.not_lt, Int.not_le, ge_iff_le, gt_iff_lt, not_and, ne_eq, Decidable.not_not] at hc'
  all_goals (try (dsimp only [st, setL, AV.cells, List.set_cons_zero, List.set_cons_succ, List.drop_zero, List.drop_succ_cons, List.take_zero, List.take_succ_cons, Nat.zero_add, Nat.add_zero, Nat.reduceAdd, List.cons_append, List.nil_append, List.eraseIdx_cons_zero, List.eraseIdx_cons_succ]))
  all_goals (refine W ?_)
  · have e : seOk len = false := nt hc
    rw [seR, show decide (0 ≤ len ∧ len ≤ 6) = false from e, if_neg (by simp), e]
    refine RET fun h' HL => ?_
    try dsimp only [oneA]
    exact TupI.none HL
  · have e : seOk len = true := nf hc
    have hn : 0 ≤ len ∧ len ≤ 6 := by simpa [seOk] using e
    rw [seR, show decide (0 ≤ len ∧ len ≤ 6) = true from e, if_pos rfl, e]
    refine LS_lt [1] rfl rfl (by decide) rfl rfl rfl rfl enI1 rfl rfl fun w1 lw1 sw1 => ?_
    try (dsimp only [st, setL, AV.cells, List.set_cons_zero, List.set_cons_succ, List.drop_zero, List.drop_succ_cons, List.take_zero, List.take_succ_cons, Nat.zero_add, Nat.add_zero, Nat.reduceAdd, List.cons_append, List.nil_append, List.eraseIdx_cons_zero, List.eraseIdx_cons_succ])
    refine W ?_
    refine LS_conv (L' := [.sl .ns 1 (([] : List Int).flatMap enI), .sl w1 1 (([1] : List Int).flatMap enI)]) (fun h' HL => loq_ns HL 1) ?_
    refine LS_cm (.refl _) (fun h' HL' wf => shEnds_ac len.toNat len [1] [] w1 .ns h h' _ (by omega) (by simp; omega) goodC_one (pow_64 _ (by omega)) .nil (by simp) (fun h2 HL2 => HL2.rdI 0 rfl enI1 (by decide)) HL') rfl rfl ?_
    try (dsimp only [st, setL, AV.cells, List.set_cons_zero, List.set_cons_succ, List.drop_zero, List.drop_succ_cons, List.take_zero, List.take_succ_cons, Nat.zero_add, Nat.add_zero, Nat.reduceAdd, List.cons_append, List.nil_append, List.eraseIdx_cons_zero, List.eraseIdx_cons_succ])
    refine W ?_
    rintro r _ ⟨lr, sr, rfl⟩
    try (dsimp only [st, setL, AV.cells, List.set_cons_zero, List.set_cons_succ, List.drop_zero, List.drop_succ_cons, List.take_zero, List.take_succ_cons, Nat.zero_add, Nat.add_zero, Nat.reduceAdd, List.cons_append, List.nil_append, List.eraseIdx_cons_zero, List.eraseIdx_cons_succ])
    refine W ?_
    refine RET fun h' HL => ?_
    try dsimp only [oneA]
    exact TupI.of (HL.ownI 0 rfl enI1 (by decide))

/-! ### The ends of star chains: the laws -/
theorem nodup_len : ∀ (n : Nat) (l : List Nat), l.Nodup → (∀ j ∈ l, j < n) → l.length ≤ n
  | 0, l, _, h => by
    cases l with
    | nil => simp
    | cons x l => have := h x (by simp); omega
  | n + 1, l, hn, h => by
    by_cases hm : n ∈ l
    · have h1 := List.length_erase_of_mem hm
      have h2 := nodup_len n (l.erase n) (hn.erase n) (fun j hj => by
        have h3 := (List.Nodup.mem_erase_iff hn).1 hj
        have := h j h3.2
        have := h3.1
        omega)
      omega
    · have := nodup_len n l hn (fun j hj => by
        have h1 := h j hj
        have : j ≠ n := fun e => hm (e ▸ hj)
        omega)
      omega

def keyA (K : List (Int × AV)) (j : Nat) : Int := ((K[j]?).map (·.1)).getD 0

theorem keyA_get {K : List (Int × AV)} {j : Nat} {e : Int × AV} (h : K[j]? = some e) : keyA K j = e.1 := by rw [keyA, h]; rfl

theorem keysA_ok {K : List (Int × AV)} {seen : List Nat} (hk : (K.map (·.1)).Nodup) (hn : seen.Nodup) (hlt : ∀ j ∈ seen, j < K.length) (hall : ∀ j, j < K.length → j ∈ seen) :
    (seen.map (keyA K)).Nodup ∧ ∀ n, n ∈ seen.map (keyA K) ↔ n ∈ K.map (·.1) := by
  have get : ∀ j, j < K.length → (K.map (·.1))[j]? = some (keyA K j) := by
    intro j hj
    rw [List.getElem?_map, List.getElem?_eq_getElem hj, keyA_get (List.getElem?_eq_getElem hj)]
    rfl
  refine ⟨?_, fun n => ⟨fun h => ?_, fun h => ?_⟩⟩
  · unfold List.Nodup
    rw [List.pairwise_map]
    refine List.Pairwise.imp_of_mem ?_ hn
    intro i j hi hj hne e
    have h1 := get i (hlt i hi)
    have h2 := get j (hlt j hj)
    rw [← e, ← h1] at h2
    exact hne ((List.getElem?_inj (by simpa using hlt i hi) hk).1 h2.symm)
  · obtain ⟨j, hj, rfl⟩ := List.mem_map.1 h
    exact List.mem_of_getElem? (get j (hlt j hj))
  · obtain ⟨j, hj⟩ := List.mem_iff_getElem?.1 h
    have hlj : j < K.length := by simpa using (List.getElem?_eq_some_iff.1 hj).1
    rw [get j hlj] at hj
    cases hj
    exact List.mem_map_of_mem (hall j hlj)

theorem endsK (k : Nat) (hk : k < 7) : (((allE k [1]).foldl putB []).map (·.1)).Nodup ∧ ((allE k [1]).foldl putB []).length ≤ 64 := by
  have h1 := foldB_nodup (allE k [1]) [] (by simp)
  refine ⟨h1, ?_⟩
  have h2 := keys_sorted k _ h1 (fun n => Iff.rfl)
  have h3 := (endsL_small k hk).2.2
  rw [← h2, List.length_mergeSort, List.length_map] at h3
  exact h3

theorem implSE_ac (len : Int) (h : AH) : AC Try.prog 53 [.i .i64 len] h (fun r h' => ∃ M, TupI (seR len) (seOk len) r M ∧ Loq h h' M) := by
  refine e53 _ fun wf => ?_
  unfold c53
  refine LI_start wf ?_
  refine W ?_
  refine LS_c0' (fun h' HL wf => in_ac len 0 6 h') rfl rfl ?_
  try (dsimp only [st, setL, AV.cells, List.set_cons_zero, List.set_cons_succ, List.drop_zero, List.drop_succ_cons, List.take_zero, List.take_succ_cons, Nat.zero_add, Nat.add_zero, Nat.reduceAdd, List.cons_append, List.nil_append, List.eraseIdx_cons_zero, List.eraseIdx_cons_succ])
  refine W ?_
  (first | refine LS_gt rfl ?_ ?_ | refine LS_gf rfl ?_ ?_ | refine LI_cond rfl ?_ ?_) <;> intro hc <;> have hc' := hc <;> try simp only [decide_eq_true_eq, decide_eq_false_iff_not, Bool.not_eq_true', Bool.not_eq_false', Bool.not_eq_true, Bool.not_eq_false, beq_iff_eq, bne_iff_ne, beq_eq_false_iff_ne, bne_eq_false_iff_eq, Int.not_lt, Int.not_le, ge_iff_le, gt_iff_lt, not_and, ne_eq, Decidable.not_not] at hc'
  all_goals (try (dsimp only [st, setL, AV.cells, List.set_cons_zero, List.set_cons_succ, List.drop_zero, List.drop_succ_cons, List.take_zero, List.take_succ_cons, Nat.zero_add, Nat.add_zero, Nat.reduceAdd, List.cons_append, List.nil_append, List.eraseIdx_cons_zero, List.eraseIdx_cons_succ]))
  all_goals (refine W ?_)
  · have e : seOk len = false := nt hc
    rw [seR, show decide (0 ≤ len ∧ len ≤ 6) = false from e, if_neg (by simp), e]
    refine RET fun h' HL => ?_
    try dsimp only [oneA]
    exact TupI.none HL
  · have e : seOk len = true := nf hc
    have hn : 0 ≤ len ∧ len ≤ 6 := by simpa [seOk] using e
    rw [seR, show decide (0 ≤ len ∧ len ≤ 6) = true from e, if_pos rfl, e]
    obtain ⟨hkn, hkl⟩ := endsK len.toNat (by omega)
    refine LS_mkM fun rm => ?_
    try (dsimp only [st, setL, AV.cells, List.set_cons_zero, List.set_cons_succ, List.drop_zero, List.drop_succ_cons, List.take_zero, List.take_succ_cons, Nat.zero_add, Nat.add_zero, Nat.reduceAdd, List.cons_append, List.nil_append, List.eraseIdx_cons_zero, List.eraseIdx_cons_succ])
    refine W ?_
    refine LS_lt ([] : List Int) rfl rfl (by decide) rfl rfl rfl rfl enI1 rfl rfl fun w0 lw0 sw0 => ?_
    try (dsimp only [st, setL, AV.cells, List.set_cons_zero, List.set_cons_succ, List.drop_zero, List.drop_succ_cons, List.take_zero, List.take_succ_cons, Nat.zero_add, Nat.add_zero, Nat.reduceAdd, List.cons_append, List.nil_append, List.eraseIdx_cons_zero, List.eraseIdx_cons_succ])
    refine W ?_
    refine LS_lt [1] rfl rfl (by decide) rfl rfl rfl rfl enI1 rfl rfl fun w1 lw1 sw1 => ?_
    try (dsimp only [st, setL, AV.cells, List.set_cons_zero, List.set_cons_succ, List.drop_zero, List.drop_succ_cons, List.take_zero, List.take_succ_cons, Nat.zero_add, Nat.add_zero, Nat.reduceAdd, List.cons_append, List.nil_append, List.eraseIdx_cons_zero, List.eraseIdx_cons_succ])
    refine W ?_
    refine LS_cm (List.perm_middle (l₁ := [_, _])) (fun h' HL' wf => ends_ac len.toNat len [1] [] w1 rm h h' [.sl w1 1 (([1] : List Int).flatMap enI), .sl w0 1 (([] : List Int).flatMap enI)] (by omega) (by simp; omega) goodC_one (pow_64 _ (by omega)) (fun h2 HL2 => HL2.rdI 0 rfl enI1 (by decide)) HL') rfl rfl ?_
    rintro _ _ ⟨rfl, rfl⟩
    try (dsimp only [st, setL, AV.cells, List.set_cons_zero, List.set_cons_succ, List.drop_zero, List.drop_succ_cons, List.take_zero, List.take_succ_cons, Nat.zero_add, Nat.add_zero, Nat.reduceAdd, List.cons_append, List.nil_append, List.eraseIdx_cons_zero, List.eraseIdx_cons_succ])
    have hks : ∀ seen : List Nat, seen.Nodup → (∀ j ∈ seen, j < ((allE len.toNat [1]).foldl putB []).length) → (∀ j, j < ((allE len.toNat [1]).foldl putB []).length → j ∈ seen) → ((seen.map (keyA ((allE len.toNat [1]).foldl putB []))).mergeSort fun x y => decide (x ≤ y)) = endsL len.toNat := by
      intro seen h1 h2 h3
      obtain ⟨g1, g2⟩ := keysA_ok hkn h1 h2 h3
      exact keys_sorted len.toNat _ g1 g2
    generalize (allE len.toNat [1]).foldl putB [] = K at hkn hkl hks ⊢
    refine LS_sub (L' := [.mp rm (mpI K), .sl w0 1 (([] : List Int).flatMap enI)]) (.cons_cons _ (.cons _ (.refl _))) ?_
    refine LS_nil ?_
    refine LThen_n ?_
    refine LI_seq ?_
    refine LI_rng (x := .tmp 4) (r := rm) (i := 0) (es := K) (fun b seen a L' => ∃ (out : AV), (∃ r : Nat → AV, a = [r 0, r 1, r 2, r 3, .m rm, out, r 6, r 7, r 8, r 9, r 10, r 11, r 12, r 13, r 14, r 15, r 16, .p b 0, r 18, r 19, r 20, r 21, r 22, r 23, r 24, r 25, r 26, r 27, r 28]) ∧ L' = [.mp rm (mpI K), .sl out 1 ((seen.map (keyA K)).flatMap enI)] ∧ lenA out = some seen.length ∧ out.sc = true ∧ seen.Nodup ∧ ∀ j ∈ seen, j < K.length) 29 Try.underlying69 rfl rfl (by decide) (by decide) (by decide) rfl (fun b => ⟨w0, exJ rfl, rfl, lw0, sw0, .nil, by simp⟩) ?_ ?_ ?_
    · rintro b seen _ _ ⟨out, ⟨r, rfl⟩, rfl, _⟩
      exact ⟨rfl, rfl, 0, rfl⟩
    · rintro b seen _ _ ⟨out, ⟨r, rfl⟩, rfl, lo, so, _⟩ hnd hlt hall
      refine LThen_n ?_
      try (dsimp only [st, setL, AV.cells, List.set_cons_zero, List.set_cons_succ, List.drop_zero, List.drop_succ_cons, List.take_zero, List.take_succ_cons, Nat.zero_add, Nat.add_zero, Nat.reduceAdd, List.cons_append, List.nil_append, List.eraseIdx_cons_zero, List.eraseIdx_cons_succ])
      refine W ?_
      have hsl := nodup_len _ seen hnd hlt
      refine LS_cm (.swap _ _ _) (fun h' HL' wf => slSort_ac HL' (by simp; omega)) rfl rfl ?_
      try (dsimp only [st, setL, AV.cells, List.set_cons_zero, List.set_cons_succ, List.drop_zero, List.drop_succ_cons, List.take_zero, List.take_succ_cons, Nat.zero_add, Nat.add_zero, Nat.reduceAdd, List.cons_append, List.nil_append, List.eraseIdx_cons_zero, List.eraseIdx_cons_succ])
      refine W ?_
      rintro _ _ ⟨rfl, rfl⟩
      try (dsimp only [st, setL, AV.cells, List.set_cons_zero, List.set_cons_succ, List.drop_zero, List.drop_succ_cons, List.take_zero, List.take_succ_cons, Nat.zero_add, Nat.add_zero, Nat.reduceAdd, List.cons_append, List.nil_append, List.eraseIdx_cons_zero, List.eraseIdx_cons_succ])
      rw [hks seen hnd hlt hall]
      refine W ?_
      refine RET fun h' HL => ?_
      try dsimp only [oneA]
      exact TupI.of (HL.ownI 0 rfl enI1 (by decide))
    · rintro b seen _ _ j e ⟨out, ⟨r, rfl⟩, rfl, lo, so, hnd, hlt⟩ hj he
      have hsl := nodup_len _ seen hnd hlt
      have hjl := (List.getElem?_eq_some_iff.1 he).1
      have hke := keyA_get he
      try (dsimp only [st, setL, AV.cells, List.set_cons_zero, List.set_cons_succ, List.drop_zero, List.drop_succ_cons, List.take_zero, List.take_succ_cons, Nat.zero_add, Nat.add_zero, Nat.reduceAdd, List.cons_append, List.nil_append, List.eraseIdx_cons_zero, List.eraseIdx_cons_succ])
      refine LI_reg ?_
      refine W ?_
      refine LS_lt [e.1] rfl rfl (by decide) rfl rfl rfl rfl enI1 rfl rfl fun w2 lw2 sw2 => ?_
      try (dsimp only [st, setL, AV.cells, List.set_cons_zero, List.set_cons_succ, List.drop_zero, List.drop_succ_cons, List.take_zero, List.take_succ_cons, Nat.zero_add, Nat.add_zero, Nat.reduceAdd, List.cons_append, List.nil_append, List.eraseIdx_cons_zero, List.eraseIdx_cons_succ])
      refine W ?_
      refine LS_ap 2 rfl (fun h' HL' => HL'.rdI 0 rfl enI1 (by decide)) enI1 (by decide) (by simp) (by simp; omega) (by simp; omega) rfl rfl rfl fun w3 lw3 sw3 => ?_
      try (dsimp only [st, setL, AV.cells, List.set_cons_zero, List.set_cons_succ, List.drop_zero, List.drop_succ_cons, List.take_zero, List.take_succ_cons, Nat.zero_add, Nat.add_zero, Nat.reduceAdd, List.cons_append, List.nil_append, List.eraseIdx_cons_zero, List.eraseIdx_cons_succ])
      refine LS_drop 1 ?_
      refine W ?_
      refine ⟨rfl, w3, exJ rfl, ?_, ?_, sw3, ?_, ?_⟩
      · rw [List.map_append, List.map_cons, List.map_nil, hke]
        rfl
      · simpa using lw3
      · rw [List.nodup_append]
        exact ⟨hnd, by simp, fun x hx y hy => by rw [List.mem_singleton.1 hy]; exact fun e => hj (e ▸ hx)⟩
      · intro i hi
        rcases List.mem_append.1 hi with hi | hi
        · exact hlt i hi
        · rw [List.mem_singleton.1 hi]; exact hjl

theorem seR_len {len : Int} : (seR len).length ≤ 1048576 := by
  unfold seR
  split
  · rename_i e
    have hn : 0 ≤ len ∧ len ≤ 6 := by simpa using e
    have := (endsL_small len.toNat (by omega)).2.2
    omega
  · simp

theorem lawFnExactStarEnds_ac (n : Int) (wn : (Lit.int .i64 n).wf = true) (h : AH) : AC Try.prog 13 [.i .i64 n] h (fun r h' => r = .b true) := by
  have hrl : (seR n).length ≤ 1048576 := seR_len
  refine e13 _ fun wf => ?_
  unfold c13
  refine LI_start wf ?_
  refine W ?_
  refine LS_c1 (fun h' HL wf => specSE_ac n h') rfl rfl ?_
  try (dsimp only [st, setL, AV.cells, List.set_cons_zero, List.set_cons_succ, List.drop_zero, List.drop_succ_cons, List.take_zero, List.take_succ_cons, Nat.zero_add, Nat.add_zero, Nat.reduceAdd, List.cons_append, List.nil_append, List.eraseIdx_cons_zero, List.eraseIdx_cons_succ])
  refine W ?_
  rintro _ _ ⟨w0, rfl, lw, sw, rfl⟩
  try (dsimp only [st, setL, AV.cells, List.set_cons_zero, List.set_cons_succ, List.drop_zero, List.drop_succ_cons, List.take_zero, List.take_succ_cons, Nat.zero_add, Nat.add_zero, Nat.reduceAdd, List.cons_append, List.nil_append, List.eraseIdx_cons_zero, List.eraseIdx_cons_succ])
  refine W ?_
  refine LS_c1 (fun h' HL wf => implSE_ac n h') rfl rfl ?_
  try (dsimp only [st, setL, AV.cells, List.set_cons_zero, List.set_cons_succ, List.drop_zero, List.drop_succ_cons, List.take_zero, List.take_succ_cons, Nat.zero_add, Nat.add_zero, Nat.reduceAdd, List.cons_append, List.nil_append, List.eraseIdx_cons_zero, List.eraseIdx_cons_succ])
  refine W ?_
  rintro _ _ ⟨g0, rfl, lg, sg, rfl⟩
  try (dsimp only [st, setL, AV.cells, List.set_cons_zero, List.set_cons_succ, List.drop_zero, List.drop_succ_cons, List.take_zero, List.take_succ_cons, Nat.zero_add, Nat.add_zero, Nat.reduceAdd, List.cons_append, List.nil_append, List.eraseIdx_cons_zero, List.eraseIdx_cons_succ])
  refine W ?_
  refine LS_c0' (fun h' HL wf => eqIntS_same _ g0 w0 h' (HL.rdI 0 rfl enI1 (by decide)) (HL.rdI 1 rfl enI1 (by decide)) (by omega)) rfl rfl ?_
  try (dsimp only [st, setL, AV.cells, List.set_cons_zero, List.set_cons_succ, List.drop_zero, List.drop_succ_cons, List.take_zero, List.take_succ_cons, Nat.zero_add, Nat.add_zero, Nat.reduceAdd, List.cons_append, List.nil_append, List.eraseIdx_cons_zero, List.eraseIdx_cons_succ])
  refine W ?_
  try ((first | (refine LS_gtnH rfl (by simp) ?_; intro hg; try (dsimp only [st, setL, AV.cells, List.set_cons_zero, List.set_cons_succ, List.drop_zero, List.drop_succ_cons, List.take_zero, List.take_succ_cons, Nat.zero_add, Nat.add_zero, Nat.reduceAdd, List.cons_append, List.nil_append, List.eraseIdx_cons_zero, List.eraseIdx_cons_succ])) | (refine LS_gfnH rfl (by simp) ?_; intro hg; try (dsimp only [st, setL, AV.cells, List.set_cons_zero, List.set_cons_succ, List.drop_zero, List.drop_succ_cons, List.take_zero, List.take_succ_cons, Nat.zero_add, Nat.add_zero, Nat.reduceAdd, List.cons_append, List.nil_append, List.eraseIdx_cons_zero, List.eraseIdx_cons_succ])) | (refine LI_cond_fH rfl (by simp) ?_; intro hg)); refine W ?_)
  refine LS_cm (.refl _) (fun h' HL wf => markIntSL_ac (seR n) g0 1 h h' _ HL (by omega) (by omega)) rfl rfl ?_
  try (dsimp only [st, setL, AV.cells, List.set_cons_zero, List.set_cons_succ, List.drop_zero, List.drop_succ_cons, List.take_zero, List.take_succ_cons, Nat.zero_add, Nat.add_zero, Nat.reduceAdd, List.cons_append, List.nil_append, List.eraseIdx_cons_zero, List.eraseIdx_cons_succ])
  refine W ?_
  rintro _ _ ⟨rfl, rfl⟩
  try (dsimp only [st, setL, AV.cells, List.set_cons_zero, List.set_cons_succ, List.drop_zero, List.drop_succ_cons, List.take_zero, List.take_succ_cons, Nat.zero_add, Nat.add_zero, Nat.reduceAdd, List.cons_append, List.nil_append, List.eraseIdx_cons_zero, List.eraseIdx_cons_succ])
  refine W ?_
  refine LS_c0 (fun h' HL wf => heldIntSL_ac (seR n).length g0 1 h' (HL.rdI 0 rfl enI1 (by decide)) (by omega) (by omega)) rfl rfl ?_
  try (dsimp only [st, setL, AV.cells, List.set_cons_zero, List.set_cons_succ, List.drop_zero, List.drop_succ_cons, List.take_zero, List.take_succ_cons, Nat.zero_add, Nat.add_zero, Nat.reduceAdd, List.cons_append, List.nil_append, List.eraseIdx_cons_zero, List.eraseIdx_cons_succ])
  refine W ?_
  try ((first | (refine LS_gtnH rfl (by simp; omega) ?_; intro hg; try (dsimp only [st, setL, AV.cells, List.set_cons_zero, List.set_cons_succ, List.drop_zero, List.drop_succ_cons, List.take_zero, List.take_succ_cons, Nat.zero_add, Nat.add_zero, Nat.reduceAdd, List.cons_append, List.nil_append, List.eraseIdx_cons_zero, List.eraseIdx_cons_succ])) | (refine LS_gfnH rfl (by simp; omega) ?_; intro hg; try (dsimp only [st, setL, AV.cells, List.set_cons_zero, List.set_cons_succ, List.drop_zero, List.drop_succ_cons, List.take_zero, List.take_succ_cons, Nat.zero_add, Nat.add_zero, Nat.reduceAdd, List.cons_append, List.nil_append, List.eraseIdx_cons_zero, List.eraseIdx_cons_succ])) | (refine LI_cond_fH rfl (by simp; omega) ?_; intro hg)); refine W ?_)
  try ((first | (refine LS_gtnH rfl (by simp) ?_; intro hg; try (dsimp only [st, setL, AV.cells, List.set_cons_zero, List.set_cons_succ, List.drop_zero, List.drop_succ_cons, List.take_zero, List.take_succ_cons, Nat.zero_add, Nat.add_zero, Nat.reduceAdd, List.cons_append, List.nil_append, List.eraseIdx_cons_zero, List.eraseIdx_cons_succ])) | (refine LS_gfnH rfl (by simp) ?_; intro hg; try (dsimp only [st, setL, AV.cells, List.set_cons_zero, List.set_cons_succ, List.drop_zero, List.drop_succ_cons, List.take_zero, List.take_succ_cons, Nat.zero_add, Nat.add_zero, Nat.reduceAdd, List.cons_append, List.nil_append, List.eraseIdx_cons_zero, List.eraseIdx_cons_succ])) | (refine LI_cond_fH rfl (by simp) ?_; intro hg)); refine W ?_)
  refine LS_c1 (fun h' HL wf => implSE_ac n h') rfl rfl ?_
  try (dsimp only [st, setL, AV.cells, List.set_cons_zero, List.set_cons_succ, List.drop_zero, List.drop_succ_cons, List.take_zero, List.take_succ_cons, Nat.zero_add, Nat.add_zero, Nat.reduceAdd, List.cons_append, List.nil_append, List.eraseIdx_cons_zero, List.eraseIdx_cons_succ])
  refine W ?_
  rintro _ _ ⟨g1, rfl, lg1, sg1, rfl⟩
  try (dsimp only [st, setL, AV.cells, List.set_cons_zero, List.set_cons_succ, List.drop_zero, List.drop_succ_cons, List.take_zero, List.take_succ_cons, Nat.zero_add, Nat.add_zero, Nat.reduceAdd, List.cons_append, List.nil_append, List.eraseIdx_cons_zero, List.eraseIdx_cons_succ])
  refine W ?_
  refine LS_c0' (fun h' HL wf => eqIntS_same _ g1 w0 h' (HL.rdI 0 rfl enI1 (by decide)) (HL.rdI 2 rfl enI1 (by decide)) (by omega)) rfl rfl ?_
  try (dsimp only [st, setL, AV.cells, List.set_cons_zero, List.set_cons_succ, List.drop_zero, List.drop_succ_cons, List.take_zero, List.take_succ_cons, Nat.zero_add, Nat.add_zero, Nat.reduceAdd, List.cons_append, List.nil_append, List.eraseIdx_cons_zero, List.eraseIdx_cons_succ])
  refine W ?_
  try ((first | (refine LS_gtnH rfl (by simp) ?_; intro hg; try (dsimp only [st, setL, AV.cells, List.set_cons_zero, List.set_cons_succ, List.drop_zero, List.drop_succ_cons, List.take_zero, List.take_succ_cons, Nat.zero_add, Nat.add_zero, Nat.reduceAdd, List.cons_append, List.nil_append, List.eraseIdx_cons_zero, List.eraseIdx_cons_succ])) | (refine LS_gfnH rfl (by simp) ?_; intro hg; try (dsimp only [st, setL, AV.cells, List.set_cons_zero, List.set_cons_succ, List.drop_zero, List.drop_succ_cons, List.take_zero, List.take_succ_cons, Nat.zero_add, Nat.add_zero, Nat.reduceAdd, List.cons_append, List.nil_append, List.eraseIdx_cons_zero, List.eraseIdx_cons_succ])) | (refine LI_cond_fH rfl (by simp) ?_; intro hg)); refine W ?_)
  refine LS_c0 (fun h' HL wf => heldIntSL_ac (seR n).length g0 1 h' (HL.rdI 1 rfl enI1 (by decide)) (by omega) (by omega)) rfl rfl ?_
  try (dsimp only [st, setL, AV.cells, List.set_cons_zero, List.set_cons_succ, List.drop_zero, List.drop_succ_cons, List.take_zero, List.take_succ_cons, Nat.zero_add, Nat.add_zero, Nat.reduceAdd, List.cons_append, List.nil_append, List.eraseIdx_cons_zero, List.eraseIdx_cons_succ])
  refine W ?_
  try ((first | (refine LS_gtnH rfl (by simp; omega) ?_; intro hg; try (dsimp only [st, setL, AV.cells, List.set_cons_zero, List.set_cons_succ, List.drop_zero, List.drop_succ_cons, List.take_zero, List.take_succ_cons, Nat.zero_add, Nat.add_zero, Nat.reduceAdd, List.cons_append, List.nil_append, List.eraseIdx_cons_zero, List.eraseIdx_cons_succ])) | (refine LS_gfnH rfl (by simp; omega) ?_; intro hg; try (dsimp only [st, setL, AV.cells, List.set_cons_zero, List.set_cons_succ, List.drop_zero, List.drop_succ_cons, List.take_zero, List.take_succ_cons, Nat.zero_add, Nat.add_zero, Nat.reduceAdd, List.cons_append, List.nil_append, List.eraseIdx_cons_zero, List.eraseIdx_cons_succ])) | (refine LI_cond_fH rfl (by simp; omega) ?_; intro hg)); refine W ?_)
  try ((first | (refine LS_gtnH rfl (by simp) ?_; intro hg; try (dsimp only [st, setL, AV.cells, List.set_cons_zero, List.set_cons_succ, List.drop_zero, List.drop_succ_cons, List.take_zero, List.take_succ_cons, Nat.zero_add, Nat.add_zero, Nat.reduceAdd, List.cons_append, List.nil_append, List.eraseIdx_cons_zero, List.eraseIdx_cons_succ])) | (refine LS_gfnH rfl (by simp) ?_; intro hg; try (dsimp only [st, setL, AV.cells, List.set_cons_zero, List.set_cons_succ, List.drop_zero, List.drop_succ_cons, List.take_zero, List.take_succ_cons, Nat.zero_add, Nat.add_zero, Nat.reduceAdd, List.cons_append, List.nil_append, List.eraseIdx_cons_zero, List.eraseIdx_cons_succ])) | (refine LI_cond_fH rfl (by simp) ?_; intro hg)); refine W ?_)
  refine RET fun h' HL => ?_
  try dsimp only [oneA]
end Go.Proofs.Ytlgjakoeogpjlaa
