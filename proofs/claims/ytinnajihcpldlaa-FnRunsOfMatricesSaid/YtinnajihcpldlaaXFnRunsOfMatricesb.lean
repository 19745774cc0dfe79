/- The walk of the law FnRunsOfMatrices, part 2: what each function that it reaches computes. -/
import Derived.Test.YtinnajihcpldlaaXFnRunsOfMatricesa
namespace Go.Proofs.Ytinnajihcpldlaa
open Go.AL
set_option linter.unusedVariables false
set_option linter.unusedSimpArgs false
set_option maxRecDepth 100000
set_option maxHeartbeats 1000000
attribute [local irreducible] AS AI AIL OpR AC CW AWP ALoop LS LI LIL LThen LLoop LBlk LRet Lh AX OpV OpF

theorem implPowers_ac (es xs : List Int) (ve vx : AV) (m : Int) (h : AH) (he : Rd h ve es) (hx : Rd h vx xs) (hle : es.length ≤ 1048576) (hlx : xs.length ≤ 1048576) :
    AC Try.prog 11 [ve, .i .i64 m, vx] h (fun r h' => r = .tup [.i .i64 (powsM m es xs).1, .b (powsM m es xs).2] ∧ h.le h') := by
  refine e11 _ _ _ fun wf => ?_
  unfold c11
  repeat (first | refine AI_seqk fun K hK => ?_ | refine AI_reg ?_ | ((first | refine wmv rfl ?_ | refine wag rfl ?_ | refine war _ rfl rfl rfl (by omega) (by omega) ?_ | refine wbn rfl rfl rfl ?_ | refine wnt rfl ?_ | refine wex rfl rfl ?_ | refine wpt rfl (by first | assumption | with_reducible rfl) rfl ?_ | refine wpf rfl (by first | assumption | with_reducible rfl) rfl ?_ | refine wpb rfl rfl rfl ?_ | refine wmf rfl ?_ | refine wnc rfl ?_ | refine wbq Try.underlying4 rfl rfl _ (.inr ⟨rfl, rfl⟩) ?_ | refine wbq Try.underlying4 rfl rfl _ (.inl ⟨rfl, rfl⟩) ?_); try dsimp only [st, List.set_cons_zero, List.set_cons_succ]) | ((first | refine AS_nil ?_ | refine AI_skip ?_ | refine AI_exit ?_); try simp only [AThen, ABlk, reduceIte, reduceCtorEq]) | ((first | refine hK _ _ ?_ | ((first | clear hK K | clear IH hK K); refine hK _ _ ?_) | ((first | clear hK K | clear IH hK K); (first | clear hK K | clear IH hK K); refine hK _ _ ?_) | ((first | clear hK K | clear IH hK K); (first | clear hK K | clear IH hK K); (first | clear hK K | clear IH hK K); refine hK _ _ ?_)); try (first | clear hK K | clear IH hK K)) | refine AI_cond_t rfl (by first | assumption | with_reducible rfl) ?_ | refine AI_cond_f rfl (by first | assumption | with_reducible rfl) ?_ | refine AS_gy rfl (by first | assumption | with_reducible rfl) ?_ | refine AS_gtn rfl (by first | assumption | with_reducible rfl) ?_ | refine AS_gfn rfl (by first | assumption | with_reducible rfl) ?_ | refine AI_block (AI_loop ?_) | refine AI_block ?_ | refine AI_ret ⟨_, rfl, ?_⟩)
  refine AS_op (OpR_box1 1 rfl rfl ?_)
  obtain ⟨h1, b, e1, e2, hle1, hcell, wf1⟩ := new_ctx wf 1 (.i .i64 m)
  rw [← e1, ← e2]
  try (dsimp only [st, setL, AV.cells, List.set_cons_zero, List.set_cons_succ, List.drop_zero, List.drop_succ_cons, List.take_zero, List.take_succ_cons, Nat.zero_add, Nat.add_zero, Nat.reduceAdd, List.cons_append, List.nil_append, List.eraseIdx_cons_zero, List.eraseIdx_cons_succ])
  repeat (first | refine AI_seqk fun K hK => ?_ | refine AI_reg ?_ | ((first | refine wmv rfl ?_ | refine wag rfl ?_ | refine war _ rfl rfl rfl (by omega) (by omega) ?_ | refine wbn rfl rfl rfl ?_ | refine wnt rfl ?_ | refine wex rfl rfl ?_ | refine wpt rfl (by first | assumption | with_reducible rfl) rfl ?_ | refine wpf rfl (by first | assumption | with_reducible rfl) rfl ?_ | refine wpb rfl rfl rfl ?_ | refine wmf rfl ?_ | refine wnc rfl ?_ | refine wbq Try.underlying4 rfl rfl _ (.inr ⟨rfl, rfl⟩) ?_ | refine wbq Try.underlying4 rfl rfl _ (.inl ⟨rfl, rfl⟩) ?_); try dsimp only [st, List.set_cons_zero, List.set_cons_succ]) | ((first | refine AS_nil ?_ | refine AI_skip ?_ | refine AI_exit ?_); try simp only [AThen, ABlk, reduceIte, reduceCtorEq]) | ((first | refine hK _ _ ?_ | ((first | clear hK K | clear IH hK K); refine hK _ _ ?_) | ((first | clear hK K | clear IH hK K); (first | clear hK K | clear IH hK K); refine hK _ _ ?_) | ((first | clear hK K | clear IH hK K); (first | clear hK K | clear IH hK K); (first | clear hK K | clear IH hK K); refine hK _ _ ?_)); try (first | clear hK K | clear IH hK K)) | refine AI_cond_t rfl (by first | assumption | with_reducible rfl) ?_ | refine AI_cond_f rfl (by first | assumption | with_reducible rfl) ?_ | refine AS_gy rfl (by first | assumption | with_reducible rfl) ?_ | refine AS_gtn rfl (by first | assumption | with_reducible rfl) ?_ | refine AS_gfn rfl (by first | assumption | with_reducible rfl) ?_ | refine AI_block (AI_loop ?_) | refine AI_block ?_ | refine AI_ret ⟨_, rfl, ?_⟩)
  refine AS_op (OpR_call rfl rfl (ContainsFunc_int_ac es ve _ _ (fun e => !decide (0 ≤ e ∧ e ≤ 1000000)) _ (he.le hle1) (by omega) ?_) ?_)
  · intro x _ h' hle'
    exact (PowersModulo_1_ac x h').mono fun v h'' ⟨e1, e2⟩ => ⟨e1, by rw [← e2]; exact .refl _⟩
  rintro _ h2 wf2 ⟨rfl, hle2⟩
  try (dsimp only [st, setL, AV.cells, List.set_cons_zero, List.set_cons_succ, List.drop_zero, List.drop_succ_cons, List.take_zero, List.take_succ_cons, Nat.zero_add, Nat.add_zero, Nat.reduceAdd, List.cons_append, List.nil_append, List.eraseIdx_cons_zero, List.eraseIdx_cons_succ])
  rw [any_not]
  have hl2 := hle1.trans hle2
  repeat (first | refine AI_seqk fun K hK => ?_ | refine AI_reg ?_ | ((first | refine wmv rfl ?_ | refine wag rfl ?_ | refine war _ rfl rfl rfl (by omega) (by omega) ?_ | refine wbn rfl rfl rfl ?_ | refine wnt rfl ?_ | refine wex rfl rfl ?_ | refine wpt rfl (by first | assumption | with_reducible rfl) rfl ?_ | refine wpf rfl (by first | assumption | with_reducible rfl) rfl ?_ | refine wpb rfl rfl rfl ?_ | refine wmf rfl ?_ | refine wnc rfl ?_ | refine wbq Try.underlying4 rfl rfl _ (.inr ⟨rfl, rfl⟩) ?_ | refine wbq Try.underlying4 rfl rfl _ (.inl ⟨rfl, rfl⟩) ?_); try dsimp only [st, List.set_cons_zero, List.set_cons_succ]) | ((first | refine AS_nil ?_ | refine AI_skip ?_ | refine AI_exit ?_); try simp only [AThen, ABlk, reduceIte, reduceCtorEq]) | ((first | refine hK _ _ ?_ | ((first | clear hK K | clear IH hK K); refine hK _ _ ?_) | ((first | clear hK K | clear IH hK K); (first | clear hK K | clear IH hK K); refine hK _ _ ?_) | ((first | clear hK K | clear IH hK K); (first | clear hK K | clear IH hK K); (first | clear hK K | clear IH hK K); refine hK _ _ ?_)); try (first | clear hK K | clear IH hK K)) | refine AI_cond_t rfl (by first | assumption | with_reducible rfl) ?_ | refine AI_cond_f rfl (by first | assumption | with_reducible rfl) ?_ | refine AS_gy rfl (by first | assumption | with_reducible rfl) ?_ | refine AS_gtn rfl (by first | assumption | with_reducible rfl) ?_ | refine AS_gfn rfl (by first | assumption | with_reducible rfl) ?_ | refine AI_block (AI_loop ?_) | refine AI_block ?_ | refine AI_ret ⟨_, rfl, ?_⟩)
  (first | refine AS_gt rfl ?_ ?_ | refine AS_gf rfl ?_ ?_ | refine AI_cond rfl ?_ ?_) <;> intro hc <;> have hc' := hc <;> try simp only [decide_eq_true_eq, decide_eq_false_iff_not, Bool.not_eq_true', Bool.not_eq_false', Bool.not_eq_true, Bool.not_eq_false, beq_iff_eq, bne_iff_ne, beq_eq_false_iff_ne, bne_eq_false_iff_eq, Int.not_lt, Int.not_le, ge_iff_le, gt_iff_lt, not_and, ne_eq, Decidable.not_not] at hc'
  all_goals
    repeat (first | refine AI_seqk fun K hK => ?_ | refine AI_reg ?_ | ((first | refine wmv rfl ?_ | refine wag rfl ?_ | refine war _ rfl rfl rfl (by omega) (by omega) ?_ | refine wbn rfl rfl rfl ?_ | refine wnt rfl ?_ | refine wex rfl rfl ?_ | refine wpt rfl (by first | assumption | with_reducible rfl) rfl ?_ | refine wpf rfl (by first | assumption | with_reducible rfl) rfl ?_ | refine wpb rfl rfl rfl ?_ | refine wmf rfl ?_ | refine wnc rfl ?_ | refine wbq Try.underlying4 rfl rfl _ (.inr ⟨rfl, rfl⟩) ?_ | refine wbq Try.underlying4 rfl rfl _ (.inl ⟨rfl, rfl⟩) ?_); try dsimp only [st, List.set_cons_zero, List.set_cons_succ]) | ((first | refine AS_nil ?_ | refine AI_skip ?_ | refine AI_exit ?_); try simp only [AThen, ABlk, reduceIte, reduceCtorEq]) | ((first | refine hK _ _ ?_ | ((first | clear hK K | clear IH hK K); refine hK _ _ ?_) | ((first | clear hK K | clear IH hK K); (first | clear hK K | clear IH hK K); refine hK _ _ ?_) | ((first | clear hK K | clear IH hK K); (first | clear hK K | clear IH hK K); (first | clear hK K | clear IH hK K); refine hK _ _ ?_)); try (first | clear hK K | clear IH hK K)) | refine AI_cond_t rfl (by first | assumption | with_reducible rfl) ?_ | refine AI_cond_f rfl (by first | assumption | with_reducible rfl) ?_ | refine AS_gy rfl (by first | assumption | with_reducible rfl) ?_ | refine AS_gtn rfl (by first | assumption | with_reducible rfl) ?_ | refine AS_gfn rfl (by first | assumption | with_reducible rfl) ?_ | refine AI_block (AI_loop ?_) | refine AI_block ?_ | refine AI_ret ⟨_, rfl, ?_⟩)
  · have b5 := nf hc
    refine AS_op (OpR_load rfl (loadA_1 ag3 (hle2.cell hcell)) ?_)
    try (dsimp only [st, setL, AV.cells, List.set_cons_zero, List.set_cons_succ, List.drop_zero, List.drop_succ_cons, List.take_zero, List.take_succ_cons, Nat.zero_add, Nat.add_zero, Nat.reduceAdd, List.cons_append, List.nil_append, List.eraseIdx_cons_zero, List.eraseIdx_cons_succ])
    repeat (first | refine AI_seqk fun K hK => ?_ | refine AI_reg ?_ | ((first | refine wmv rfl ?_ | refine wag rfl ?_ | refine war _ rfl rfl rfl (by omega) (by omega) ?_ | refine wbn rfl rfl rfl ?_ | refine wnt rfl ?_ | refine wex rfl rfl ?_ | refine wpt rfl (by first | assumption | with_reducible rfl) rfl ?_ | refine wpf rfl (by first | assumption | with_reducible rfl) rfl ?_ | refine wpb rfl rfl rfl ?_ | refine wmf rfl ?_ | refine wnc rfl ?_ | refine wbq Try.underlying4 rfl rfl _ (.inr ⟨rfl, rfl⟩) ?_ | refine wbq Try.underlying4 rfl rfl _ (.inl ⟨rfl, rfl⟩) ?_); try dsimp only [st, List.set_cons_zero, List.set_cons_succ]) | ((first | refine AS_nil ?_ | refine AI_skip ?_ | refine AI_exit ?_); try simp only [AThen, ABlk, reduceIte, reduceCtorEq]) | ((first | refine hK _ _ ?_ | ((first | clear hK K | clear IH hK K); refine hK _ _ ?_) | ((first | clear hK K | clear IH hK K); (first | clear hK K | clear IH hK K); refine hK _ _ ?_) | ((first | clear hK K | clear IH hK K); (first | clear hK K | clear IH hK K); (first | clear hK K | clear IH hK K); refine hK _ _ ?_)); try (first | clear hK K | clear IH hK K)) | refine AI_cond_t rfl (by first | assumption | with_reducible rfl) ?_ | refine AI_cond_f rfl (by first | assumption | with_reducible rfl) ?_ | refine AS_gy rfl (by first | assumption | with_reducible rfl) ?_ | refine AS_gtn rfl (by first | assumption | with_reducible rfl) ?_ | refine AS_gfn rfl (by first | assumption | with_reducible rfl) ?_ | refine AI_block (AI_loop ?_) | refine AI_block ?_ | refine AI_ret ⟨_, rfl, ?_⟩)
    refine AS_op (OpR_call rfl rfl (residuesOk_ac xs vx m _ (hx.le hl2) (by omega)) ?_)
    rintro _ h3 wf3 ⟨rfl, hle3⟩
    try (dsimp only [st, setL, AV.cells, List.set_cons_zero, List.set_cons_succ, List.drop_zero, List.drop_succ_cons, List.take_zero, List.take_succ_cons, Nat.zero_add, Nat.add_zero, Nat.reduceAdd, List.cons_append, List.nil_append, List.eraseIdx_cons_zero, List.eraseIdx_cons_succ])
    repeat (first | refine AI_seqk fun K hK => ?_ | refine AI_reg ?_ | ((first | refine wmv rfl ?_ | refine wag rfl ?_ | refine war _ rfl rfl rfl (by omega) (by omega) ?_ | refine wbn rfl rfl rfl ?_ | refine wnt rfl ?_ | refine wex rfl rfl ?_ | refine wpt rfl (by first | assumption | with_reducible rfl) rfl ?_ | refine wpf rfl (by first | assumption | with_reducible rfl) rfl ?_ | refine wpb rfl rfl rfl ?_ | refine wmf rfl ?_ | refine wnc rfl ?_ | refine wbq Try.underlying4 rfl rfl _ (.inr ⟨rfl, rfl⟩) ?_ | refine wbq Try.underlying4 rfl rfl _ (.inl ⟨rfl, rfl⟩) ?_); try dsimp only [st, List.set_cons_zero, List.set_cons_succ]) | ((first | refine AS_nil ?_ | refine AI_skip ?_ | refine AI_exit ?_); try simp only [AThen, ABlk, reduceIte, reduceCtorEq]) | ((first | refine hK _ _ ?_ | ((first | clear hK K | clear IH hK K); refine hK _ _ ?_) | ((first | clear hK K | clear IH hK K); (first | clear hK K | clear IH hK K); refine hK _ _ ?_) | ((first | clear hK K | clear IH hK K); (first | clear hK K | clear IH hK K); (first | clear hK K | clear IH hK K); refine hK _ _ ?_)); try (first | clear hK K | clear IH hK K)) | refine AI_cond_t rfl (by first | assumption | with_reducible rfl) ?_ | refine AI_cond_f rfl (by first | assumption | with_reducible rfl) ?_ | refine AS_gy rfl (by first | assumption | with_reducible rfl) ?_ | refine AS_gtn rfl (by first | assumption | with_reducible rfl) ?_ | refine AS_gfn rfl (by first | assumption | with_reducible rfl) ?_ | refine AI_block (AI_loop ?_) | refine AI_block ?_ | refine AI_ret ⟨_, rfl, ?_⟩)
    have hl3 := hl2.trans hle3
    (first | refine AS_gt rfl ?_ ?_ | refine AS_gf rfl ?_ ?_ | refine AI_cond rfl ?_ ?_) <;> intro hc <;> have hc' := hc <;> try simp only [decide_eq_true_eq, decide_eq_false_iff_not, Bool.not_eq_true', Bool.not_eq_false', Bool.not_eq_true, Bool.not_eq_false, beq_iff_eq, bne_iff_ne, beq_eq_false_iff_ne, bne_eq_false_iff_eq, Int.not_lt, Int.not_le, ge_iff_le, gt_iff_lt, not_and, ne_eq, Decidable.not_not] at hc'
    all_goals
      repeat (first | refine AI_seqk fun K hK => ?_ | refine AI_reg ?_ | ((first | refine wmv rfl ?_ | refine wag rfl ?_ | refine war _ rfl rfl rfl (by omega) (by omega) ?_ | refine wbn rfl rfl rfl ?_ | refine wnt rfl ?_ | refine wex rfl rfl ?_ | refine wpt rfl (by first | assumption | with_reducible rfl) rfl ?_ | refine wpf rfl (by first | assumption | with_reducible rfl) rfl ?_ | refine wpb rfl rfl rfl ?_ | refine wmf rfl ?_ | refine wnc rfl ?_ | refine wbq Try.underlying4 rfl rfl _ (.inr ⟨rfl, rfl⟩) ?_ | refine wbq Try.underlying4 rfl rfl _ (.inl ⟨rfl, rfl⟩) ?_); try dsimp only [st, List.set_cons_zero, List.set_cons_succ]) | ((first | refine AS_nil ?_ | refine AI_skip ?_ | refine AI_exit ?_); try simp only [AThen, ABlk, reduceIte, reduceCtorEq]) | ((first | refine hK _ _ ?_ | ((first | clear hK K | clear IH hK K); refine hK _ _ ?_) | ((first | clear hK K | clear IH hK K); (first | clear hK K | clear IH hK K); refine hK _ _ ?_) | ((first | clear hK K | clear IH hK K); (first | clear hK K | clear IH hK K); (first | clear hK K | clear IH hK K); refine hK _ _ ?_)); try (first | clear hK K | clear IH hK K)) | refine AI_cond_t rfl (by first | assumption | with_reducible rfl) ?_ | refine AI_cond_f rfl (by first | assumption | with_reducible rfl) ?_ | refine AS_gy rfl (by first | assumption | with_reducible rfl) ?_ | refine AS_gtn rfl (by first | assumption | with_reducible rfl) ?_ | refine AS_gfn rfl (by first | assumption | with_reducible rfl) ?_ | refine AI_block (AI_loop ?_) | refine AI_block ?_ | refine AI_ret ⟨_, rfl, ?_⟩)
    · have b14 := nf hc
      rw [Bool.and_eq_true] at b14
      obtain ⟨b1, b4⟩ := b14
      refine AS_op (OpR_lenA Try.underlying25 rfl hx.len ?_)
      try (dsimp only [st, setL, AV.cells, List.set_cons_zero, List.set_cons_succ, List.drop_zero, List.drop_succ_cons, List.take_zero, List.take_succ_cons, Nat.zero_add, Nat.add_zero, Nat.reduceAdd, List.cons_append, List.nil_append, List.eraseIdx_cons_zero, List.eraseIdx_cons_succ])
      repeat (first | refine AI_seqk fun K hK => ?_ | refine AI_reg ?_ | ((first | refine wmv rfl ?_ | refine wag rfl ?_ | refine war _ rfl rfl rfl (by omega) (by omega) ?_ | refine wbn rfl rfl rfl ?_ | refine wnt rfl ?_ | refine wex rfl rfl ?_ | refine wpt rfl (by first | assumption | with_reducible rfl) rfl ?_ | refine wpf rfl (by first | assumption | with_reducible rfl) rfl ?_ | refine wpb rfl rfl rfl ?_ | refine wmf rfl ?_ | refine wnc rfl ?_ | refine wbq Try.underlying4 rfl rfl _ (.inr ⟨rfl, rfl⟩) ?_ | refine wbq Try.underlying4 rfl rfl _ (.inl ⟨rfl, rfl⟩) ?_); try dsimp only [st, List.set_cons_zero, List.set_cons_succ]) | ((first | refine AS_nil ?_ | refine AI_skip ?_ | refine AI_exit ?_); try simp only [AThen, ABlk, reduceIte, reduceCtorEq]) | ((first | refine hK _ _ ?_ | ((first | clear hK K | clear IH hK K); refine hK _ _ ?_) | ((first | clear hK K | clear IH hK K); (first | clear hK K | clear IH hK K); refine hK _ _ ?_) | ((first | clear hK K | clear IH hK K); (first | clear hK K | clear IH hK K); (first | clear hK K | clear IH hK K); refine hK _ _ ?_)); try (first | clear hK K | clear IH hK K)) | refine AI_cond_t rfl (by first | assumption | with_reducible rfl) ?_ | refine AI_cond_f rfl (by first | assumption | with_reducible rfl) ?_ | refine AS_gy rfl (by first | assumption | with_reducible rfl) ?_ | refine AS_gtn rfl (by first | assumption | with_reducible rfl) ?_ | refine AS_gfn rfl (by first | assumption | with_reducible rfl) ?_ | refine AI_block (AI_loop ?_) | refine AI_block ?_ | refine AI_ret ⟨_, rfl, ?_⟩)
      refine AS_op (OpR_call rfl rfl (in_ac _ _ _ _) ?_)
      rintro _ _ wf4 ⟨rfl, rfl⟩
      try (dsimp only [st, setL, AV.cells, List.set_cons_zero, List.set_cons_succ, List.drop_zero, List.drop_succ_cons, List.take_zero, List.take_succ_cons, Nat.zero_add, Nat.add_zero, Nat.reduceAdd, List.cons_append, List.nil_append, List.eraseIdx_cons_zero, List.eraseIdx_cons_succ])
      repeat (first | refine AI_seqk fun K hK => ?_ | refine AI_reg ?_ | ((first | refine wmv rfl ?_ | refine wag rfl ?_ | refine war _ rfl rfl rfl (by omega) (by omega) ?_ | refine wbn rfl rfl rfl ?_ | refine wnt rfl ?_ | refine wex rfl rfl ?_ | refine wpt rfl (by first | assumption | with_reducible rfl) rfl ?_ | refine wpf rfl (by first | assumption | with_reducible rfl) rfl ?_ | refine wpb rfl rfl rfl ?_ | refine wmf rfl ?_ | refine wnc rfl ?_ | refine wbq Try.underlying4 rfl rfl _ (.inr ⟨rfl, rfl⟩) ?_ | refine wbq Try.underlying4 rfl rfl _ (.inl ⟨rfl, rfl⟩) ?_); try dsimp only [st, List.set_cons_zero, List.set_cons_succ]) | ((first | refine AS_nil ?_ | refine AI_skip ?_ | refine AI_exit ?_); try simp only [AThen, ABlk, reduceIte, reduceCtorEq]) | ((first | refine hK _ _ ?_ | ((first | clear hK K | clear IH hK K); refine hK _ _ ?_) | ((first | clear hK K | clear IH hK K); (first | clear hK K | clear IH hK K); refine hK _ _ ?_) | ((first | clear hK K | clear IH hK K); (first | clear hK K | clear IH hK K); (first | clear hK K | clear IH hK K); refine hK _ _ ?_)); try (first | clear hK K | clear IH hK K)) | refine AI_cond_t rfl (by first | assumption | with_reducible rfl) ?_ | refine AI_cond_f rfl (by first | assumption | with_reducible rfl) ?_ | refine AS_gy rfl (by first | assumption | with_reducible rfl) ?_ | refine AS_gtn rfl (by first | assumption | with_reducible rfl) ?_ | refine AS_gfn rfl (by first | assumption | with_reducible rfl) ?_ | refine AI_block (AI_loop ?_) | refine AI_block ?_ | refine AI_ret ⟨_, rfl, ?_⟩)
      (first | refine AS_gt rfl ?_ ?_ | refine AS_gf rfl ?_ ?_ | refine AI_cond rfl ?_ ?_) <;> intro hc <;> have hc' := hc <;> try simp only [decide_eq_true_eq, decide_eq_false_iff_not, Bool.not_eq_true', Bool.not_eq_false', Bool.not_eq_true, Bool.not_eq_false, beq_iff_eq, bne_iff_ne, beq_eq_false_iff_ne, bne_eq_false_iff_eq, Int.not_lt, Int.not_le, ge_iff_le, gt_iff_lt, not_and, ne_eq, Decidable.not_not] at hc'
      all_goals
        repeat (first | refine AI_seqk fun K hK => ?_ | refine AI_reg ?_ | ((first | refine wmv rfl ?_ | refine wag rfl ?_ | refine war _ rfl rfl rfl (by omega) (by omega) ?_ | refine wbn rfl rfl rfl ?_ | refine wnt rfl ?_ | refine wex rfl rfl ?_ | refine wpt rfl (by first | assumption | with_reducible rfl) rfl ?_ | refine wpf rfl (by first | assumption | with_reducible rfl) rfl ?_ | refine wpb rfl rfl rfl ?_ | refine wmf rfl ?_ | refine wnc rfl ?_ | refine wbq Try.underlying4 rfl rfl _ (.inr ⟨rfl, rfl⟩) ?_ | refine wbq Try.underlying4 rfl rfl _ (.inl ⟨rfl, rfl⟩) ?_); try dsimp only [st, List.set_cons_zero, List.set_cons_succ]) | ((first | refine AS_nil ?_ | refine AI_skip ?_ | refine AI_exit ?_); try simp only [AThen, ABlk, reduceIte, reduceCtorEq]) | ((first | refine hK _ _ ?_ | ((first | clear hK K | clear IH hK K); refine hK _ _ ?_) | ((first | clear hK K | clear IH hK K); (first | clear hK K | clear IH hK K); refine hK _ _ ?_) | ((first | clear hK K | clear IH hK K); (first | clear hK K | clear IH hK K); (first | clear hK K | clear IH hK K); refine hK _ _ ?_)); try (first | clear hK K | clear IH hK K)) | refine AI_cond_t rfl (by first | assumption | with_reducible rfl) ?_ | refine AI_cond_f rfl (by first | assumption | with_reducible rfl) ?_ | refine AS_gy rfl (by first | assumption | with_reducible rfl) ?_ | refine AS_gtn rfl (by first | assumption | with_reducible rfl) ?_ | refine AS_gfn rfl (by first | assumption | with_reducible rfl) ?_ | refine AI_block (AI_loop ?_) | refine AI_block ?_ | refine AI_ret ⟨_, rfl, ?_⟩)
      · have b2 := nf hc
        refine AS_op (OpR_lenA Try.underlying25 rfl he.len ?_)
        try (dsimp only [st, setL, AV.cells, List.set_cons_zero, List.set_cons_succ, List.drop_zero, List.drop_succ_cons, List.take_zero, List.take_succ_cons, Nat.zero_add, Nat.add_zero, Nat.reduceAdd, List.cons_append, List.nil_append, List.eraseIdx_cons_zero, List.eraseIdx_cons_succ])
        repeat (first | refine AI_seqk fun K hK => ?_ | refine AI_reg ?_ | ((first | refine wmv rfl ?_ | refine wag rfl ?_ | refine war _ rfl rfl rfl (by omega) (by omega) ?_ | refine wbn rfl rfl rfl ?_ | refine wnt rfl ?_ | refine wex rfl rfl ?_ | refine wpt rfl (by first | assumption | with_reducible rfl) rfl ?_ | refine wpf rfl (by first | assumption | with_reducible rfl) rfl ?_ | refine wpb rfl rfl rfl ?_ | refine wmf rfl ?_ | refine wnc rfl ?_ | refine wbq Try.underlying4 rfl rfl _ (.inr ⟨rfl, rfl⟩) ?_ | refine wbq Try.underlying4 rfl rfl _ (.inl ⟨rfl, rfl⟩) ?_); try dsimp only [st, List.set_cons_zero, List.set_cons_succ]) | ((first | refine AS_nil ?_ | refine AI_skip ?_ | refine AI_exit ?_); try simp only [AThen, ABlk, reduceIte, reduceCtorEq]) | ((first | refine hK _ _ ?_ | ((first | clear hK K | clear IH hK K); refine hK _ _ ?_) | ((first | clear hK K | clear IH hK K); (first | clear hK K | clear IH hK K); refine hK _ _ ?_) | ((first | clear hK K | clear IH hK K); (first | clear hK K | clear IH hK K); (first | clear hK K | clear IH hK K); refine hK _ _ ?_)); try (first | clear hK K | clear IH hK K)) | refine AI_cond_t rfl (by first | assumption | with_reducible rfl) ?_ | refine AI_cond_f rfl (by first | assumption | with_reducible rfl) ?_ | refine AS_gy rfl (by first | assumption | with_reducible rfl) ?_ | refine AS_gtn rfl (by first | assumption | with_reducible rfl) ?_ | refine AS_gfn rfl (by first | assumption | with_reducible rfl) ?_ | refine AI_block (AI_loop ?_) | refine AI_block ?_ | refine AI_ret ⟨_, rfl, ?_⟩)
        refine AS_op (OpR_lenA Try.underlying25 rfl hx.len ?_)
        try (dsimp only [st, setL, AV.cells, List.set_cons_zero, List.set_cons_succ, List.drop_zero, List.drop_succ_cons, List.take_zero, List.take_succ_cons, Nat.zero_add, Nat.add_zero, Nat.reduceAdd, List.cons_append, List.nil_append, List.eraseIdx_cons_zero, List.eraseIdx_cons_succ])
        repeat (first | refine AI_seqk fun K hK => ?_ | refine AI_reg ?_ | ((first | refine wmv rfl ?_ | refine wag rfl ?_ | refine war _ rfl rfl rfl (by omega) (by omega) ?_ | refine wbn rfl rfl rfl ?_ | refine wnt rfl ?_ | refine wex rfl rfl ?_ | refine wpt rfl (by first | assumption | with_reducible rfl) rfl ?_ | refine wpf rfl (by first | assumption | with_reducible rfl) rfl ?_ | refine wpb rfl rfl rfl ?_ | refine wmf rfl ?_ | refine wnc rfl ?_ | refine wbq Try.underlying4 rfl rfl _ (.inr ⟨rfl, rfl⟩) ?_ | refine wbq Try.underlying4 rfl rfl _ (.inl ⟨rfl, rfl⟩) ?_); try dsimp only [st, List.set_cons_zero, List.set_cons_succ]) | ((first | refine AS_nil ?_ | refine AI_skip ?_ | refine AI_exit ?_); try simp only [AThen, ABlk, reduceIte, reduceCtorEq]) | ((first | refine hK _ _ ?_ | ((first | clear hK K | clear IH hK K); refine hK _ _ ?_) | ((first | clear hK K | clear IH hK K); (first | clear hK K | clear IH hK K); refine hK _ _ ?_) | ((first | clear hK K | clear IH hK K); (first | clear hK K | clear IH hK K); (first | clear hK K | clear IH hK K); refine hK _ _ ?_)); try (first | clear hK K | clear IH hK K)) | refine AI_cond_t rfl (by first | assumption | with_reducible rfl) ?_ | refine AI_cond_f rfl (by first | assumption | with_reducible rfl) ?_ | refine AS_gy rfl (by first | assumption | with_reducible rfl) ?_ | refine AS_gtn rfl (by first | assumption | with_reducible rfl) ?_ | refine AS_gfn rfl (by first | assumption | with_reducible rfl) ?_ | refine AI_block (AI_loop ?_) | refine AI_block ?_ | refine AI_ret ⟨_, rfl, ?_⟩)
        (first | refine AS_gt rfl ?_ ?_ | refine AS_gf rfl ?_ ?_ | refine AI_cond rfl ?_ ?_) <;> intro hc <;> have hc' := hc <;> try simp only [decide_eq_true_eq, decide_eq_false_iff_not, Bool.not_eq_true', Bool.not_eq_false', Bool.not_eq_true, Bool.not_eq_false, beq_iff_eq, bne_iff_ne, beq_eq_false_iff_ne, bne_eq_false_iff_eq, Int.not_lt, Int.not_le, ge_iff_le, gt_iff_lt, not_and, ne_eq, Decidable.not_not] at hc'
        all_goals
          repeat (first | refine AI_seqk fun K hK => ?_ | refine AI_reg ?_ | ((first | refine wmv rfl ?_ | refine wag rfl ?_ | refine war _ rfl rfl rfl (by omega) (by omega) ?_ | refine wbn rfl rfl rfl ?_ | refine wnt rfl ?_ | refine wex rfl rfl ?_ | refine wpt rfl (by first | assumption | with_reducible rfl) rfl ?_ | refine wpf rfl (by first | assumption | with_reducible rfl) rfl ?_ | refine wpb rfl rfl rfl ?_ | refine wmf rfl ?_ | refine wnc rfl ?_ | refine wbq Try.underlying4 rfl rfl _ (.inr ⟨rfl, rfl⟩) ?_ | refine wbq Try.underlying4 rfl rfl _ (.inl ⟨rfl, rfl⟩) ?_); try dsimp only [st, List.set_cons_zero, List.set_cons_succ]) | ((first | refine AS_nil ?_ | refine AI_skip ?_ | refine AI_exit ?_); try simp only [AThen, ABlk, reduceIte, reduceCtorEq]) | ((first | refine hK _ _ ?_ | ((first | clear hK K | clear IH hK K); refine hK _ _ ?_) | ((first | clear hK K | clear IH hK K); (first | clear hK K | clear IH hK K); refine hK _ _ ?_) | ((first | clear hK K | clear IH hK K); (first | clear hK K | clear IH hK K); (first | clear hK K | clear IH hK K); refine hK _ _ ?_)); try (first | clear hK K | clear IH hK K)) | refine AI_cond_t rfl (by first | assumption | with_reducible rfl) ?_ | refine AI_cond_f rfl (by first | assumption | with_reducible rfl) ?_ | refine AS_gy rfl (by first | assumption | with_reducible rfl) ?_ | refine AS_gtn rfl (by first | assumption | with_reducible rfl) ?_ | refine AS_gfn rfl (by first | assumption | with_reducible rfl) ?_ | refine AI_block (AI_loop ?_) | refine AI_block ?_ | refine AI_ret ⟨_, rfl, ?_⟩)
        · rw [powsM_bad (by simp only [powsOk, hc, Bool.not_true, Bool.false_and, Bool.and_false])]
          exact ⟨rfl, hl3⟩
        · have b3 := hc
          have hok : powsOk m es xs = true := by simp only [powsOk, b1, b2, b3, b4, b5, Bool.not_false, Bool.and_self]
          have hfin : powsM m es xs = (fldP m es xs 1, true) := by rw [powsM, if_pos hok]
          obtain ⟨hm0, hm1, hn0, hn1, hlen, hxs, hes⟩ := powsOk_out hok
          have hcell3 := hle3.cell (hle2.cell hcell)
          refine AS_op (OpR_lenA Try.underlying25 rfl he.len ?_)
          try (dsimp only [st, setL, AV.cells, List.set_cons_zero, List.set_cons_succ, List.drop_zero, List.drop_succ_cons, List.take_zero, List.take_succ_cons, Nat.zero_add, Nat.add_zero, Nat.reduceAdd, List.cons_append, List.nil_append, List.eraseIdx_cons_zero, List.eraseIdx_cons_succ])
          repeat (first | refine AI_seqk fun K hK => ?_ | refine AI_reg ?_ | ((first | refine wmv rfl ?_ | refine wag rfl ?_ | refine war _ rfl rfl rfl (by omega) (by omega) ?_ | refine wbn rfl rfl rfl ?_ | refine wnt rfl ?_ | refine wex rfl rfl ?_ | refine wpt rfl (by first | assumption | with_reducible rfl) rfl ?_ | refine wpf rfl (by first | assumption | with_reducible rfl) rfl ?_ | refine wpb rfl rfl rfl ?_ | refine wmf rfl ?_ | refine wnc rfl ?_ | refine wbq Try.underlying4 rfl rfl _ (.inr ⟨rfl, rfl⟩) ?_ | refine wbq Try.underlying4 rfl rfl _ (.inl ⟨rfl, rfl⟩) ?_); try dsimp only [st, List.set_cons_zero, List.set_cons_succ]) | ((first | refine AS_nil ?_ | refine AI_skip ?_ | refine AI_exit ?_); try simp only [AThen, ABlk, reduceIte, reduceCtorEq]) | ((first | refine hK _ _ ?_ | ((first | clear hK K | clear IH hK K); refine hK _ _ ?_) | ((first | clear hK K | clear IH hK K); (first | clear hK K | clear IH hK K); refine hK _ _ ?_) | ((first | clear hK K | clear IH hK K); (first | clear hK K | clear IH hK K); (first | clear hK K | clear IH hK K); refine hK _ _ ?_)); try (first | clear hK K | clear IH hK K)) | refine AI_cond_t rfl (by first | assumption | with_reducible rfl) ?_ | refine AI_cond_f rfl (by first | assumption | with_reducible rfl) ?_ | refine AS_gy rfl (by first | assumption | with_reducible rfl) ?_ | refine AS_gtn rfl (by first | assumption | with_reducible rfl) ?_ | refine AS_gfn rfl (by first | assumption | with_reducible rfl) ?_ | refine AI_block (AI_loop ?_) | refine AI_block ?_ | refine AI_ret ⟨_, rfl, ?_⟩)
          refine AIL_ind (fun (n : Nat) a h' => ∃ (i out : Int), (∃ r : Nat → AV, a = [ve, .i .i64 m, vx, un, .p b 0, un, .i .i64 0, .b false, r 8, .f 43 [.p b 0], .i .i64 out, r 11, r 12, r 13, r 14, r 15, r 16, r 17, r 18, r 19, r 20, r 21, r 22, r 23, r 24, r 25, r 26, r 27, r 28, r 29, r 30, r 31, r 32, r 33, r 34, r 35, ve, .i .i64 es.length, .i .i64 i, r 39, r 40, r 41, r 42, r 43, r 44, r 45, r 46, r 47, r 48, r 49, r 50, r 51, r 52, r 53, r 54]) ∧ 0 ≤ i ∧ i + n = es.length ∧ 0 ≤ out ∧ out ≤ m - 1 ∧ h3 = h' ∧
              fldP m es xs 1 = fldP m (es.drop i.toNat) (xs.drop i.toNat) out)
            ?_ es.length _ _ ⟨0, 1, exJ rfl, by omega, by omega, by omega, by omega, rfl, rfl⟩
          rintro n a h' ⟨i, out, ⟨r, rfl⟩, h0, hn, ho0, ho1, rfl, heq⟩ IH
          repeat (first | refine AI_seqk fun K hK => ?_ | refine AI_reg ?_ | ((first | refine wmv rfl ?_ | refine wag rfl ?_ | refine war _ rfl rfl rfl (by omega) (by omega) ?_ | refine wbn rfl rfl rfl ?_ | refine wnt rfl ?_ | refine wex rfl rfl ?_ | refine wpt rfl (by first | assumption | with_reducible rfl) rfl ?_ | refine wpf rfl (by first | assumption | with_reducible rfl) rfl ?_ | refine wpb rfl rfl rfl ?_ | refine wmf rfl ?_ | refine wnc rfl ?_ | refine wbq Try.underlying4 rfl rfl _ (.inr ⟨rfl, rfl⟩) ?_ | refine wbq Try.underlying4 rfl rfl _ (.inl ⟨rfl, rfl⟩) ?_); try dsimp only [st, List.set_cons_zero, List.set_cons_succ]) | ((first | refine AS_nil ?_ | refine AI_skip ?_ | refine AI_exit ?_); try simp only [AThen, ABlk, reduceIte, reduceCtorEq]) | ((first | refine hK _ _ ?_ | ((first | clear hK K | clear IH hK K); refine hK _ _ ?_) | ((first | clear hK K | clear IH hK K); (first | clear hK K | clear IH hK K); refine hK _ _ ?_) | ((first | clear hK K | clear IH hK K); (first | clear hK K | clear IH hK K); (first | clear hK K | clear IH hK K); refine hK _ _ ?_)); try (first | clear hK K | clear IH hK K)) | refine AI_cond_t rfl (by first | assumption | with_reducible rfl) ?_ | refine AI_cond_f rfl (by first | assumption | with_reducible rfl) ?_ | refine AS_gy rfl (by first | assumption | with_reducible rfl) ?_ | refine AS_gtn rfl (by first | assumption | with_reducible rfl) ?_ | refine AS_gfn rfl (by first | assumption | with_reducible rfl) ?_ | refine AI_block (AI_loop ?_) | refine AI_block ?_ | refine AI_ret ⟨_, rfl, ?_⟩)
          (first | refine AS_gt rfl ?_ ?_ | refine AS_gf rfl ?_ ?_ | refine AI_cond rfl ?_ ?_) <;> intro hc <;> have hc' := hc <;> try simp only [decide_eq_true_eq, decide_eq_false_iff_not, Bool.not_eq_true', Bool.not_eq_false', Bool.not_eq_true, Bool.not_eq_false, beq_iff_eq, bne_iff_ne, beq_eq_false_iff_ne, bne_eq_false_iff_eq, Int.not_lt, Int.not_le, ge_iff_le, gt_iff_lt, not_and, ne_eq, Decidable.not_not] at hc'
          all_goals
            repeat (first | refine AI_seqk fun K hK => ?_ | refine AI_reg ?_ | ((first | refine wmv rfl ?_ | refine wag rfl ?_ | refine war _ rfl rfl rfl (by omega) (by omega) ?_ | refine wbn rfl rfl rfl ?_ | refine wnt rfl ?_ | refine wex rfl rfl ?_ | refine wpt rfl (by first | assumption | with_reducible rfl) rfl ?_ | refine wpf rfl (by first | assumption | with_reducible rfl) rfl ?_ | refine wpb rfl rfl rfl ?_ | refine wmf rfl ?_ | refine wnc rfl ?_ | refine wbq Try.underlying4 rfl rfl _ (.inr ⟨rfl, rfl⟩) ?_ | refine wbq Try.underlying4 rfl rfl _ (.inl ⟨rfl, rfl⟩) ?_); try dsimp only [st, List.set_cons_zero, List.set_cons_succ]) | ((first | refine AS_nil ?_ | refine AI_skip ?_ | refine AI_exit ?_); try simp only [AThen, ABlk, reduceIte, reduceCtorEq]) | ((first | refine hK _ _ ?_ | ((first | clear hK K | clear IH hK K); refine hK _ _ ?_) | ((first | clear hK K | clear IH hK K); (first | clear hK K | clear IH hK K); refine hK _ _ ?_) | ((first | clear hK K | clear IH hK K); (first | clear hK K | clear IH hK K); (first | clear hK K | clear IH hK K); refine hK _ _ ?_)); try (first | clear hK K | clear IH hK K)) | refine AI_cond_t rfl (by first | assumption | with_reducible rfl) ?_ | refine AI_cond_f rfl (by first | assumption | with_reducible rfl) ?_ | refine AS_gy rfl (by first | assumption | with_reducible rfl) ?_ | refine AS_gtn rfl (by first | assumption | with_reducible rfl) ?_ | refine AS_gfn rfl (by first | assumption | with_reducible rfl) ?_ | refine AI_block (AI_loop ?_) | refine AI_block ?_ | refine AI_ret ⟨_, rfl, ?_⟩)
          · obtain ⟨e, hei, hem, hed⟩ := drop_at h0 hc'
            obtain ⟨x, hxi, hxm, hxd⟩ := drop_at (l := xs) h0 (by omega)
            rw [hxd, hed, fldP] at heq
            have hxb := hxs x hxm
            have heb := hes e hem
            refine AS_op (OpR_idx Try.underlying25 sz3 rfl rfl (he.le hl3) (fun _ => rfl) h0 hei fun b2 o2 hrow => ?_)
            try (dsimp only [st, setL, AV.cells, List.set_cons_zero, List.set_cons_succ, List.drop_zero, List.drop_succ_cons, List.take_zero, List.take_succ_cons, Nat.zero_add, Nat.add_zero, Nat.reduceAdd, List.cons_append, List.nil_append, List.eraseIdx_cons_zero, List.eraseIdx_cons_succ])
            repeat (first | refine AI_seqk fun K hK => ?_ | refine AI_reg ?_ | ((first | refine wmv rfl ?_ | refine wag rfl ?_ | refine war _ rfl rfl rfl (by omega) (by omega) ?_ | refine wbn rfl rfl rfl ?_ | refine wnt rfl ?_ | refine wex rfl rfl ?_ | refine wpt rfl (by first | assumption | with_reducible rfl) rfl ?_ | refine wpf rfl (by first | assumption | with_reducible rfl) rfl ?_ | refine wpb rfl rfl rfl ?_ | refine wmf rfl ?_ | refine wnc rfl ?_ | refine wbq Try.underlying4 rfl rfl _ (.inr ⟨rfl, rfl⟩) ?_ | refine wbq Try.underlying4 rfl rfl _ (.inl ⟨rfl, rfl⟩) ?_); try dsimp only [st, List.set_cons_zero, List.set_cons_succ]) | ((first | refine AS_nil ?_ | refine AI_skip ?_ | refine AI_exit ?_); try simp only [AThen, ABlk, reduceIte, reduceCtorEq]) | ((first | refine hK _ _ ?_ | ((first | clear hK K | clear IH hK K); refine hK _ _ ?_) | ((first | clear hK K | clear IH hK K); (first | clear hK K | clear IH hK K); refine hK _ _ ?_) | ((first | clear hK K | clear IH hK K); (first | clear hK K | clear IH hK K); (first | clear hK K | clear IH hK K); refine hK _ _ ?_)); try (first | clear hK K | clear IH hK K)) | refine AI_cond_t rfl (by first | assumption | with_reducible rfl) ?_ | refine AI_cond_f rfl (by first | assumption | with_reducible rfl) ?_ | refine AS_gy rfl (by first | assumption | with_reducible rfl) ?_ | refine AS_gtn rfl (by first | assumption | with_reducible rfl) ?_ | refine AS_gfn rfl (by first | assumption | with_reducible rfl) ?_ | refine AI_block (AI_loop ?_) | refine AI_block ?_ | refine AI_ret ⟨_, rfl, ?_⟩)
            refine AS_op (OpR_load rfl (loadA_1 ag3 (cell_row hrow)) ?_)
            try (dsimp only [st, setL, AV.cells, List.set_cons_zero, List.set_cons_succ, List.drop_zero, List.drop_succ_cons, List.take_zero, List.take_succ_cons, Nat.zero_add, Nat.add_zero, Nat.reduceAdd, List.cons_append, List.nil_append, List.eraseIdx_cons_zero, List.eraseIdx_cons_succ])
            repeat (first | refine AI_seqk fun K hK => ?_ | refine AI_reg ?_ | ((first | refine wmv rfl ?_ | refine wag rfl ?_ | refine war _ rfl rfl rfl (by omega) (by omega) ?_ | refine wbn rfl rfl rfl ?_ | refine wnt rfl ?_ | refine wex rfl rfl ?_ | refine wpt rfl (by first | assumption | with_reducible rfl) rfl ?_ | refine wpf rfl (by first | assumption | with_reducible rfl) rfl ?_ | refine wpb rfl rfl rfl ?_ | refine wmf rfl ?_ | refine wnc rfl ?_ | refine wbq Try.underlying4 rfl rfl _ (.inr ⟨rfl, rfl⟩) ?_ | refine wbq Try.underlying4 rfl rfl _ (.inl ⟨rfl, rfl⟩) ?_); try dsimp only [st, List.set_cons_zero, List.set_cons_succ]) | ((first | refine AS_nil ?_ | refine AI_skip ?_ | refine AI_exit ?_); try simp only [AThen, ABlk, reduceIte, reduceCtorEq]) | ((first | refine hK _ _ ?_ | ((first | clear hK K | clear IH hK K); refine hK _ _ ?_) | ((first | clear hK K | clear IH hK K); (first | clear hK K | clear IH hK K); refine hK _ _ ?_) | ((first | clear hK K | clear IH hK K); (first | clear hK K | clear IH hK K); (first | clear hK K | clear IH hK K); refine hK _ _ ?_)); try (first | clear hK K | clear IH hK K)) | refine AI_cond_t rfl (by first | assumption | with_reducible rfl) ?_ | refine AI_cond_f rfl (by first | assumption | with_reducible rfl) ?_ | refine AS_gy rfl (by first | assumption | with_reducible rfl) ?_ | refine AS_gtn rfl (by first | assumption | with_reducible rfl) ?_ | refine AS_gfn rfl (by first | assumption | with_reducible rfl) ?_ | refine AI_block (AI_loop ?_) | refine AI_block ?_ | refine AI_ret ⟨_, rfl, ?_⟩)
            refine AS_op (OpR_idx Try.underlying25 sz3 rfl rfl (hx.le hl3) (fun _ => rfl) h0 hxi fun b2 o2 hrow => ?_)
            try (dsimp only [st, setL, AV.cells, List.set_cons_zero, List.set_cons_succ, List.drop_zero, List.drop_succ_cons, List.take_zero, List.take_succ_cons, Nat.zero_add, Nat.add_zero, Nat.reduceAdd, List.cons_append, List.nil_append, List.eraseIdx_cons_zero, List.eraseIdx_cons_succ])
            repeat (first | refine AI_seqk fun K hK => ?_ | refine AI_reg ?_ | ((first | refine wmv rfl ?_ | refine wag rfl ?_ | refine war _ rfl rfl rfl (by omega) (by omega) ?_ | refine wbn rfl rfl rfl ?_ | refine wnt rfl ?_ | refine wex rfl rfl ?_ | refine wpt rfl (by first | assumption | with_reducible rfl) rfl ?_ | refine wpf rfl (by first | assumption | with_reducible rfl) rfl ?_ | refine wpb rfl rfl rfl ?_ | refine wmf rfl ?_ | refine wnc rfl ?_ | refine wbq Try.underlying4 rfl rfl _ (.inr ⟨rfl, rfl⟩) ?_ | refine wbq Try.underlying4 rfl rfl _ (.inl ⟨rfl, rfl⟩) ?_); try dsimp only [st, List.set_cons_zero, List.set_cons_succ]) | ((first | refine AS_nil ?_ | refine AI_skip ?_ | refine AI_exit ?_); try simp only [AThen, ABlk, reduceIte, reduceCtorEq]) | ((first | refine hK _ _ ?_ | ((first | clear hK K | clear IH hK K); refine hK _ _ ?_) | ((first | clear hK K | clear IH hK K); (first | clear hK K | clear IH hK K); refine hK _ _ ?_) | ((first | clear hK K | clear IH hK K); (first | clear hK K | clear IH hK K); (first | clear hK K | clear IH hK K); refine hK _ _ ?_)); try (first | clear hK K | clear IH hK K)) | refine AI_cond_t rfl (by first | assumption | with_reducible rfl) ?_ | refine AI_cond_f rfl (by first | assumption | with_reducible rfl) ?_ | refine AS_gy rfl (by first | assumption | with_reducible rfl) ?_ | refine AS_gtn rfl (by first | assumption | with_reducible rfl) ?_ | refine AS_gfn rfl (by first | assumption | with_reducible rfl) ?_ | refine AI_block (AI_loop ?_) | refine AI_block ?_ | refine AI_ret ⟨_, rfl, ?_⟩)
            refine AS_op (OpR_load rfl (loadA_1 ag3 (cell_row hrow)) ?_)
            try (dsimp only [st, setL, AV.cells, List.set_cons_zero, List.set_cons_succ, List.drop_zero, List.drop_succ_cons, List.take_zero, List.take_succ_cons, Nat.zero_add, Nat.add_zero, Nat.reduceAdd, List.cons_append, List.nil_append, List.eraseIdx_cons_zero, List.eraseIdx_cons_succ])
            repeat (first | refine AI_seqk fun K hK => ?_ | refine AI_reg ?_ | ((first | refine wmv rfl ?_ | refine wag rfl ?_ | refine war _ rfl rfl rfl (by omega) (by omega) ?_ | refine wbn rfl rfl rfl ?_ | refine wnt rfl ?_ | refine wex rfl rfl ?_ | refine wpt rfl (by first | assumption | with_reducible rfl) rfl ?_ | refine wpf rfl (by first | assumption | with_reducible rfl) rfl ?_ | refine wpb rfl rfl rfl ?_ | refine wmf rfl ?_ | refine wnc rfl ?_ | refine wbq Try.underlying4 rfl rfl _ (.inr ⟨rfl, rfl⟩) ?_ | refine wbq Try.underlying4 rfl rfl _ (.inl ⟨rfl, rfl⟩) ?_); try dsimp only [st, List.set_cons_zero, List.set_cons_succ]) | ((first | refine AS_nil ?_ | refine AI_skip ?_ | refine AI_exit ?_); try simp only [AThen, ABlk, reduceIte, reduceCtorEq]) | ((first | refine hK _ _ ?_ | ((first | clear hK K | clear IH hK K); refine hK _ _ ?_) | ((first | clear hK K | clear IH hK K); (first | clear hK K | clear IH hK K); refine hK _ _ ?_) | ((first | clear hK K | clear IH hK K); (first | clear hK K | clear IH hK K); (first | clear hK K | clear IH hK K); refine hK _ _ ?_)); try (first | clear hK K | clear IH hK K)) | refine AI_cond_t rfl (by first | assumption | with_reducible rfl) ?_ | refine AI_cond_f rfl (by first | assumption | with_reducible rfl) ?_ | refine AS_gy rfl (by first | assumption | with_reducible rfl) ?_ | refine AS_gtn rfl (by first | assumption | with_reducible rfl) ?_ | refine AS_gfn rfl (by first | assumption | with_reducible rfl) ?_ | refine AI_block (AI_loop ?_) | refine AI_block ?_ | refine AI_ret ⟨_, rfl, ?_⟩)
            have hp := powL_bd hm0 e.toNat e x 1 hxb.1 hxb.2 (by omega) (by omega)
            refine AS_op (OpR_call rfl rfl (power_int_ac x e m _ _ _ hm0 hm1 hxb.1 hxb.2 heb.1 heb.2 (fun a b' ha0 ha1 hb0 hb1 => PowersModulo_2_ac a b' m b _ hcell3 hm0 hm1 ha0 ha1 hb0 hb1)) ?_)
            rintro _ _ wf5 ⟨rfl, rfl⟩
            try (dsimp only [st, setL, AV.cells, List.set_cons_zero, List.set_cons_succ, List.drop_zero, List.drop_succ_cons, List.take_zero, List.take_succ_cons, Nat.zero_add, Nat.add_zero, Nat.reduceAdd, List.cons_append, List.nil_append, List.eraseIdx_cons_zero, List.eraseIdx_cons_succ])
            repeat (first | refine AI_seqk fun K hK => ?_ | refine AI_reg ?_ | ((first | refine wmv rfl ?_ | refine wag rfl ?_ | refine war _ rfl rfl rfl (by omega) (by omega) ?_ | refine wbn rfl rfl rfl ?_ | refine wnt rfl ?_ | refine wex rfl rfl ?_ | refine wpt rfl (by first | assumption | with_reducible rfl) rfl ?_ | refine wpf rfl (by first | assumption | with_reducible rfl) rfl ?_ | refine wpb rfl rfl rfl ?_ | refine wmf rfl ?_ | refine wnc rfl ?_ | refine wbq Try.underlying4 rfl rfl _ (.inr ⟨rfl, rfl⟩) ?_ | refine wbq Try.underlying4 rfl rfl _ (.inl ⟨rfl, rfl⟩) ?_); try dsimp only [st, List.set_cons_zero, List.set_cons_succ]) | ((first | refine AS_nil ?_ | refine AI_skip ?_ | refine AI_exit ?_); try simp only [AThen, ABlk, reduceIte, reduceCtorEq]) | ((first | refine hK _ _ ?_ | ((first | clear hK K | clear IH hK K); refine hK _ _ ?_) | ((first | clear hK K | clear IH hK K); (first | clear hK K | clear IH hK K); refine hK _ _ ?_) | ((first | clear hK K | clear IH hK K); (first | clear hK K | clear IH hK K); (first | clear hK K | clear IH hK K); refine hK _ _ ?_)); try (first | clear hK K | clear IH hK K)) | refine AI_cond_t rfl (by first | assumption | with_reducible rfl) ?_ | refine AI_cond_f rfl (by first | assumption | with_reducible rfl) ?_ | refine AS_gy rfl (by first | assumption | with_reducible rfl) ?_ | refine AS_gtn rfl (by first | assumption | with_reducible rfl) ?_ | refine AS_gfn rfl (by first | assumption | with_reducible rfl) ?_ | refine AI_block (AI_loop ?_) | refine AI_block ?_ | refine AI_ret ⟨_, rfl, ?_⟩)
            refine AS_op (OpR_call rfl rfl (PowersModulo_2_ac out _ m b _ hcell3 hm0 hm1 ho0 ho1 hp.1 hp.2) ?_)
            rintro _ _ wf6 ⟨rfl, rfl⟩
            try (dsimp only [st, setL, AV.cells, List.set_cons_zero, List.set_cons_succ, List.drop_zero, List.drop_succ_cons, List.take_zero, List.take_succ_cons, Nat.zero_add, Nat.add_zero, Nat.reduceAdd, List.cons_append, List.nil_append, List.eraseIdx_cons_zero, List.eraseIdx_cons_succ])
            repeat (first | refine AI_seqk fun K hK => ?_ | refine AI_reg ?_ | ((first | refine wmv rfl ?_ | refine wag rfl ?_ | refine war _ rfl rfl rfl (by omega) (by omega) ?_ | refine wbn rfl rfl rfl ?_ | refine wnt rfl ?_ | refine wex rfl rfl ?_ | refine wpt rfl (by first | assumption | with_reducible rfl) rfl ?_ | refine wpf rfl (by first | assumption | with_reducible rfl) rfl ?_ | refine wpb rfl rfl rfl ?_ | refine wmf rfl ?_ | refine wnc rfl ?_ | refine wbq Try.underlying4 rfl rfl _ (.inr ⟨rfl, rfl⟩) ?_ | refine wbq Try.underlying4 rfl rfl _ (.inl ⟨rfl, rfl⟩) ?_); try dsimp only [st, List.set_cons_zero, List.set_cons_succ]) | ((first | refine AS_nil ?_ | refine AI_skip ?_ | refine AI_exit ?_); try simp only [AThen, ABlk, reduceIte, reduceCtorEq]) | ((first | refine hK _ _ ?_ | ((first | clear hK K | clear IH hK K); refine hK _ _ ?_) | ((first | clear hK K | clear IH hK K); (first | clear hK K | clear IH hK K); refine hK _ _ ?_) | ((first | clear hK K | clear IH hK K); (first | clear hK K | clear IH hK K); (first | clear hK K | clear IH hK K); refine hK _ _ ?_)); try (first | clear hK K | clear IH hK K)) | refine AI_cond_t rfl (by first | assumption | with_reducible rfl) ?_ | refine AI_cond_f rfl (by first | assumption | with_reducible rfl) ?_ | refine AS_gy rfl (by first | assumption | with_reducible rfl) ?_ | refine AS_gtn rfl (by first | assumption | with_reducible rfl) ?_ | refine AS_gfn rfl (by first | assumption | with_reducible rfl) ?_ | refine AI_block (AI_loop ?_) | refine AI_block ?_ | refine AI_ret ⟨_, rfl, ?_⟩)
            have hb := mul_bd ho0 (show out ≤ m by omega) hp.1 (show powL m e.toNat e x 1 ≤ m by omega) hm1
            have ht := tmod_bd hb.1 hm0
            refine IH (n - 1) _ _ (by omega) ⟨i + 1, _, exJ rfl, by omega, by omega, ht.1, ht.2, rfl, ?_⟩
            rw [toNat_succ h0]
            exact heq
          · refine ⟨?_, hl3⟩
            rw [hfin, heq, drop_nil (l := xs) (by omega), drop_nil (l := es) (by omega)]
            rfl
      · have b2 := nt hc
        rw [powsM_bad (by simp only [powsOk, b2, Bool.false_and, Bool.and_false])]
        exact ⟨rfl, hl3⟩
    · have b14 := nt hc
      rw [powsM_bad (by
        cases q1 : decide (2 ≤ m ∧ m ≤ 10000)
        · simp only [powsOk, q1, Bool.false_and]
        · rw [q1, Bool.true_and] at b14
          simp only [powsOk, b14, Bool.false_and, Bool.and_false])]
      exact ⟨rfl, hl3⟩
  · have b5 := nt hc
    rw [powsM_bad (by simp only [powsOk, b5, Bool.and_false])]
    exact ⟨rfl, hl2⟩

theorem residues_ac (m : MatM) (h : AH) : AC Try.prog 27 [.agg (enMat m)] h (fun r h' => Own h 1 enI h' r [m.a, m.b, m.c, m.d]) := by
  refine e27 _ fun wf => ?_
  unfold c27
  refine LI_start wf ?_
  refine W ?_
  refine LS_bxn rfl rfl fun b1 => ?_
  try (dsimp only [st, setL, AV.cells, List.set_cons_zero, List.set_cons_succ, List.drop_zero, List.drop_succ_cons, List.take_zero, List.take_succ_cons, Nat.zero_add, Nat.add_zero, Nat.reduceAdd, List.cons_append, List.nil_append, List.eraseIdx_cons_zero, List.eraseIdx_cons_succ])
  refine W ?_
  refine LS_lt [m.a, m.b, m.c, m.d] rfl rfl (by decide) rfl rfl rfl rfl enI1 rfl rfl fun w hw1 hw2 => ?_
  try (dsimp only [st, setL, AV.cells, List.set_cons_zero, List.set_cons_succ, List.drop_zero, List.drop_succ_cons, List.take_zero, List.take_succ_cons, Nat.zero_add, Nat.add_zero, Nat.reduceAdd, List.cons_append, List.nil_append, List.eraseIdx_cons_zero, List.eraseIdx_cons_succ])
  refine W ?_
  refine RET fun h' HL => ?_
  try dsimp only [oneA]
  exact HL.ownI 0 rfl enI1 (by decide)

theorem moMatrix_ac (a : MatM) (m : Int) (h : AH) (hm0 : 2 ≤ m) (hm1 : m ≤ 10000) : AC Try.prog 35 [.agg (enMat a), .i .i64 m] h (fun r h' => r = .b ([a.a, a.b, a.c, a.d].all fun x => decide (0 ≤ x ∧ x ≤ m - 1)) ∧ h.le h') := by
  refine e35 _ _ fun wf => ?_
  unfold c35
  refine LI_start wf ?_
  refine W ?_
  refine LS_bxn rfl rfl fun b1 => ?_
  try (dsimp only [st, setL, AV.cells, List.set_cons_zero, List.set_cons_succ, List.drop_zero, List.drop_succ_cons, List.take_zero, List.take_succ_cons, Nat.zero_add, Nat.add_zero, Nat.reduceAdd, List.cons_append, List.nil_append, List.eraseIdx_cons_zero, List.eraseIdx_cons_succ])
  refine W ?_
  refine LS_lt [a.a, a.b, a.c, a.d] rfl rfl (by decide) rfl rfl rfl rfl enI1 rfl rfl fun w hw1 hw2 => ?_
  try (dsimp only [st, setL, AV.cells, List.set_cons_zero, List.set_cons_succ, List.drop_zero, List.drop_succ_cons, List.take_zero, List.take_succ_cons, Nat.zero_add, Nat.add_zero, Nat.reduceAdd, List.cons_append, List.nil_append, List.eraseIdx_cons_zero, List.eraseIdx_cons_succ])
  refine W ?_
  refine LS_c0' (fun h HL _ => l1All_ac [a.a, a.b, a.c, a.d] w 0 (m - 1) h (HL.rdI 0 rfl enI1 (by decide)) (by simp)) rfl rfl ?_
  try (dsimp only [st, setL, AV.cells, List.set_cons_zero, List.set_cons_succ, List.drop_zero, List.drop_succ_cons, List.take_zero, List.take_succ_cons, Nat.zero_add, Nat.add_zero, Nat.reduceAdd, List.cons_append, List.nil_append, List.eraseIdx_cons_zero, List.eraseIdx_cons_succ])
  refine W ?_
  refine RET fun h' HL => ?_
  try dsimp only [oneA]
  exact ⟨rfl, HL.le⟩

def matOk (m : Int) (a : MatM) : Bool := [a.a, a.b, a.c, a.d].all fun x => decide (0 ≤ x ∧ x ≤ m - 1)

theorem matOk_out {m : Int} {a : MatM} (h : matOk m a = true) : (0 ≤ a.a ∧ a.a ≤ m - 1) ∧ (0 ≤ a.b ∧ a.b ≤ m - 1) ∧ (0 ≤ a.c ∧ a.c ≤ m - 1) ∧ (0 ≤ a.d ∧ a.d ≤ m - 1) := by
  simpa [matOk] using h

def matMul (m : Int) (a b : MatM) : MatM := ⟨(a.a * b.a + a.b * b.c).tmod m, (a.a * b.b + a.b * b.d).tmod m, (a.c * b.a + a.d * b.c).tmod m, (a.c * b.b + a.d * b.d).tmod m⟩

theorem matMul_ok {m : Int} {a b : MatM} (hm : 2 ≤ m) (ha : matOk m a = true) (hb : matOk m b = true) : matOk m (matMul m a b) = true := by
  obtain ⟨a1, a2, a3, a4⟩ := matOk_out ha
  obtain ⟨b1, b2, b3, b4⟩ := matOk_out hb
  have t : ∀ x y z w : Int, 0 ≤ x → 0 ≤ y → 0 ≤ z → 0 ≤ w → 0 ≤ (x * y + z * w).tmod m ∧ (x * y + z * w).tmod m ≤ m - 1 := fun x y z w h1 h2 h3 h4 => tmod_bd (Int.add_nonneg (Int.mul_nonneg h1 h2) (Int.mul_nonneg h3 h4)) hm
  have t1 := t _ _ _ _ a1.1 b1.1 a2.1 b3.1
  have t2 := t _ _ _ _ a1.1 b2.1 a2.1 b4.1
  have t3 := t _ _ _ _ a3.1 b1.1 a4.1 b3.1
  have t4 := t _ _ _ _ a3.1 b2.1 a4.1 b4.1
  simp only [matOk, matMul, List.all_cons, List.all_nil, Bool.and_true, Bool.and_eq_true, decide_eq_true_eq]
  exact ⟨t1, t2, t3, t4⟩

theorem mat_bds {m : Int} {a b : MatM} (hm1 : m ≤ 10000) (ha : matOk m a = true) (hb : matOk m b = true) : (0 ≤ a.a * b.a ∧ a.a * b.a ≤ 100000000) ∧ (0 ≤ a.b * b.c ∧ a.b * b.c ≤ 100000000) ∧ (0 ≤ a.a * b.b ∧ a.a * b.b ≤ 100000000) ∧ (0 ≤ a.b * b.d ∧ a.b * b.d ≤ 100000000) ∧
    (0 ≤ a.c * b.a ∧ a.c * b.a ≤ 100000000) ∧ (0 ≤ a.d * b.c ∧ a.d * b.c ≤ 100000000) ∧ (0 ≤ a.c * b.b ∧ a.c * b.b ≤ 100000000) ∧ (0 ≤ a.d * b.d ∧ a.d * b.d ≤ 100000000) := by
  obtain ⟨a1, a2, a3, a4⟩ := matOk_out ha
  obtain ⟨b1, b2, b3, b4⟩ := matOk_out hb
  have t : ∀ x y : Int, (0 ≤ x ∧ x ≤ m - 1) → (0 ≤ y ∧ y ≤ m - 1) → 0 ≤ x * y ∧ x * y ≤ 100000000 := fun x y h1 h2 => mul_bd h1.1 (by omega) h2.1 (by omega) hm1
  exact ⟨t _ _ a1 b1, t _ _ a2 b3, t _ _ a1 b2, t _ _ a2 b4, t _ _ a3 b1, t _ _ a4 b3, t _ _ a3 b2, t _ _ a4 b4⟩

theorem moTimes_ac (a b : MatM) (m : Int) (h : AH) (hm0 : 2 ≤ m) (hm1 : m ≤ 10000) (ha : matOk m a = true) (hb : matOk m b = true) :
    AC Try.prog 36 [.agg (enMat a), .agg (enMat b), .i .i64 m] h (fun r h' => r = .agg (enMat (matMul m a b)) ∧ h.le h') := by
  obtain ⟨⟨p1, q1⟩, ⟨p2, q2⟩, ⟨p3, q3⟩, ⟨p4, q4⟩, ⟨p5, q5⟩, ⟨p6, q6⟩, ⟨p7, q7⟩, ⟨p8, q8⟩⟩ := mat_bds hm1 ha hb
  refine e36 _ _ _ fun wf => ?_
  unfold c36
  refine LI_start wf ?_
  refine W ?_
  refine LS_bxn rfl rfl fun b1 => ?_
  try (dsimp only [st, setL, AV.cells, List.set_cons_zero, List.set_cons_succ, List.drop_zero, List.drop_succ_cons, List.take_zero, List.take_succ_cons, Nat.zero_add, Nat.add_zero, Nat.reduceAdd, List.cons_append, List.nil_append, List.eraseIdx_cons_zero, List.eraseIdx_cons_succ])
  refine W ?_
  refine LS_bxn rfl rfl fun b2 => ?_
  try (dsimp only [st, setL, AV.cells, List.set_cons_zero, List.set_cons_succ, List.drop_zero, List.drop_succ_cons, List.take_zero, List.take_succ_cons, Nat.zero_add, Nat.add_zero, Nat.reduceAdd, List.cons_append, List.nil_append, List.eraseIdx_cons_zero, List.eraseIdx_cons_succ])
  refine W ?_
  refine LS_al rfl fun b3 => ?_
  try (dsimp only [st, setL, AV.cells, List.set_cons_zero, List.set_cons_succ, List.drop_zero, List.drop_succ_cons, List.take_zero, List.take_succ_cons, Nat.zero_add, Nat.add_zero, Nat.reduceAdd, List.cons_append, List.nil_append, List.eraseIdx_cons_zero, List.eraseIdx_cons_succ])
  refine W ?_
  refine dz36_0 ?_
  refine WX ?_
  refine W ?_
  refine LX_v noG (OpV_rem rfl rfl (by omega)) ?_
  try (dsimp only [st, setL, AV.cells, List.set_cons_zero, List.set_cons_succ, List.drop_zero, List.drop_succ_cons, List.take_zero, List.take_succ_cons, Nat.zero_add, Nat.add_zero, Nat.reduceAdd, List.cons_append, List.nil_append, List.eraseIdx_cons_zero, List.eraseIdx_cons_succ])
  refine WX ?_
  refine W ?_
  refine LX_v noG (OpV_rem rfl rfl (by omega)) ?_
  try (dsimp only [st, setL, AV.cells, List.set_cons_zero, List.set_cons_succ, List.drop_zero, List.drop_succ_cons, List.take_zero, List.take_succ_cons, Nat.zero_add, Nat.add_zero, Nat.reduceAdd, List.cons_append, List.nil_append, List.eraseIdx_cons_zero, List.eraseIdx_cons_succ])
  refine WX ?_
  refine W ?_
  refine LX_v noG (OpV_rem rfl rfl (by omega)) ?_
  try (dsimp only [st, setL, AV.cells, List.set_cons_zero, List.set_cons_succ, List.drop_zero, List.drop_succ_cons, List.take_zero, List.take_succ_cons, Nat.zero_add, Nat.add_zero, Nat.reduceAdd, List.cons_append, List.nil_append, List.eraseIdx_cons_zero, List.eraseIdx_cons_succ])
  refine WX ?_
  refine W ?_
  refine LX_v noG (OpV_rem rfl rfl (by omega)) ?_
  try (dsimp only [st, setL, AV.cells, List.set_cons_zero, List.set_cons_succ, List.drop_zero, List.drop_succ_cons, List.take_zero, List.take_succ_cons, Nat.zero_add, Nat.add_zero, Nat.reduceAdd, List.cons_append, List.nil_append, List.eraseIdx_cons_zero, List.eraseIdx_cons_succ])
  refine WX ?_
  refine W ?_

  refine RET fun h' HL => ?_
  try dsimp only [oneA]
  exact ⟨rfl, HL.le⟩

theorem matrixTimes_1_ac (a b : MatM) (m : Int) (bb : Nat) (h : AH) (hbb : h.cell bb 0 = some (.i .i64 m)) (hm0 : 2 ≤ m) (hm1 : m ≤ 10000) (ha : matOk m a = true) (hb : matOk m b = true) :
    AC Try.prog 64 [.agg (enMat a), .agg (enMat b), .p bb 0] h (fun r h' => r = .agg (enMat (matMul m a b)) ∧ h.le h') := by
  obtain ⟨⟨p1, q1⟩, ⟨p2, q2⟩, ⟨p3, q3⟩, ⟨p4, q4⟩, ⟨p5, q5⟩, ⟨p6, q6⟩, ⟨p7, q7⟩, ⟨p8, q8⟩⟩ := mat_bds hm1 ha hb
  refine e64 _ _ _ fun wf => ?_
  unfold c64
  refine LI_start wf ?_
  refine W ?_
  refine LS_bxn rfl rfl fun b1 => ?_
  try (dsimp only [st, setL, AV.cells, List.set_cons_zero, List.set_cons_succ, List.drop_zero, List.drop_succ_cons, List.take_zero, List.take_succ_cons, Nat.zero_add, Nat.add_zero, Nat.reduceAdd, List.cons_append, List.nil_append, List.eraseIdx_cons_zero, List.eraseIdx_cons_succ])
  refine W ?_
  refine LS_bxn rfl rfl fun b2 => ?_
  try (dsimp only [st, setL, AV.cells, List.set_cons_zero, List.set_cons_succ, List.drop_zero, List.drop_succ_cons, List.take_zero, List.take_succ_cons, Nat.zero_add, Nat.add_zero, Nat.reduceAdd, List.cons_append, List.nil_append, List.eraseIdx_cons_zero, List.eraseIdx_cons_succ])
  refine W ?_
  refine LS_al rfl fun b3 => ?_
  try (dsimp only [st, setL, AV.cells, List.set_cons_zero, List.set_cons_succ, List.drop_zero, List.drop_succ_cons, List.take_zero, List.take_succ_cons, Nat.zero_add, Nat.add_zero, Nat.reduceAdd, List.cons_append, List.nil_append, List.eraseIdx_cons_zero, List.eraseIdx_cons_succ])
  refine W ?_
  refine dz64_0 ?_
  refine WX ?_
  refine W ?_
  refine LX_v noG (OpV_rem rfl rfl (by omega)) ?_
  try (dsimp only [st, setL, AV.cells, List.set_cons_zero, List.set_cons_succ, List.drop_zero, List.drop_succ_cons, List.take_zero, List.take_succ_cons, Nat.zero_add, Nat.add_zero, Nat.reduceAdd, List.cons_append, List.nil_append, List.eraseIdx_cons_zero, List.eraseIdx_cons_succ])
  refine WX ?_
  refine W ?_
  refine LX_v noG (OpV_rem rfl rfl (by omega)) ?_
  try (dsimp only [st, setL, AV.cells, List.set_cons_zero, List.set_cons_succ, List.drop_zero, List.drop_succ_cons, List.take_zero, List.take_succ_cons, Nat.zero_add, Nat.add_zero, Nat.reduceAdd, List.cons_append, List.nil_append, List.eraseIdx_cons_zero, List.eraseIdx_cons_succ])
  refine WX ?_
  refine W ?_
  refine LX_v noG (OpV_rem rfl rfl (by omega)) ?_
  try (dsimp only [st, setL, AV.cells, List.set_cons_zero, List.set_cons_succ, List.drop_zero, List.drop_succ_cons, List.take_zero, List.take_succ_cons, Nat.zero_add, Nat.add_zero, Nat.reduceAdd, List.cons_append, List.nil_append, List.eraseIdx_cons_zero, List.eraseIdx_cons_succ])
  refine WX ?_
  refine W ?_
  refine LX_v noG (OpV_rem rfl rfl (by omega)) ?_
  try (dsimp only [st, setL, AV.cells, List.set_cons_zero, List.set_cons_succ, List.drop_zero, List.drop_succ_cons, List.take_zero, List.take_succ_cons, Nat.zero_add, Nat.add_zero, Nat.reduceAdd, List.cons_append, List.nil_append, List.eraseIdx_cons_zero, List.eraseIdx_cons_succ])
  refine WX ?_
  refine W ?_
  refine RET fun h' HL => ?_
  try dsimp only [oneA]
  exact ⟨rfl, HL.le⟩

theorem matrixTimes_ac (m : Int) (h : AH) : AC Try.prog 32 [.i .i64 m] h (fun r h' => ∃ M, (∃ b, r = .f 64 [.p b 0] ∧ M = [.pt b [.i .i64 m]]) ∧ Loq h h' M) := by
  refine e32 _ fun wf => ?_
  unfold c32
  refine LI_start wf ?_
  refine W ?_
  refine LS_bx1 rfl rfl fun b1 => ?_
  try (dsimp only [st, setL, AV.cells, List.set_cons_zero, List.set_cons_succ, List.drop_zero, List.drop_succ_cons, List.take_zero, List.take_succ_cons, Nat.zero_add, Nat.add_zero, Nat.reduceAdd, List.cons_append, List.nil_append, List.eraseIdx_cons_zero, List.eraseIdx_cons_succ])
  refine W ?_
  refine RET fun h' HL => ?_
  try dsimp only [oneA]
  exact ⟨_, ⟨b1, rfl, rfl⟩, HL⟩

def matPow (m : Int) : Nat → Int → MatM → MatM → MatM
  | 0, _, _, out => out
  | n + 1, e, x, out => if 0 < e then matPow m n (e.tdiv 2) (matMul m x x) (if e.tmod 2 = 1 then matMul m out x else out) else out

theorem matPow_end (m : Int) {e : Int} {x out : MatM} (he : e ≤ 0) : ∀ n, matPow m n e x out = out
  | 0 => rfl
  | n + 1 => by rw [matPow, if_neg (by omega)]

def matI : MatM := ⟨1, 0, 0, 1⟩

theorem matI_ok {m : Int} (hm : 2 ≤ m) : matOk m matI = true := by simp [matOk, matI]; omega

def mpowOk (m e : Int) (a : MatM) : Bool := decide (2 ≤ m ∧ m ≤ 10000) && (matOk m a && decide (0 ≤ e ∧ e ≤ 1000000))

def mpowM (m e : Int) (a : MatM) : MatM × Bool := if mpowOk m e a = true then (matPow m e.toNat e a matI, true) else (⟨0, 0, 0, 0⟩, false)

theorem mpowM_bad {m e : Int} {a : MatM} (h : mpowOk m e a = false) : mpowM m e a = (⟨0, 0, 0, 0⟩, false) := by simp [mpowM, h]

theorem mpowM_ok {m e : Int} {a : MatM} (h : mpowOk m e a = true) : mpowM m e a = (matPow m e.toNat e a matI, true) := by simp [mpowM, h]

/-- A product handed over as a function. -/
theorem powerMat_ac (q : MatM) (e m : Int) (b : Nat) (h : AH) (hb : h.cell b 0 = some (.i .i64 m)) (hm0 : 2 ≤ m) (hm1 : m ≤ 10000) (hq : matOk m q = true) (he0 : 0 ≤ e) (he1 : e ≤ 1000000) :
    AC Try.prog 39 [.agg (enMat q), .agg (enMat matI), .i .i64 e, .f 64 [.p b 0]] h (fun r h' => r = .agg (enMat (matPow m e.toNat e q matI)) ∧ h.le h') := by
  refine e39 _ _ _ _ fun wf => ?_
  unfold c39
  refine LI_start wf ?_
  refine W ?_
  refine LS_bxn rfl rfl fun b1 => ?_
  try (dsimp only [st, setL, AV.cells, List.set_cons_zero, List.set_cons_succ, List.drop_zero, List.drop_succ_cons, List.take_zero, List.take_succ_cons, Nat.zero_add, Nat.add_zero, Nat.reduceAdd, List.cons_append, List.nil_append, List.eraseIdx_cons_zero, List.eraseIdx_cons_succ])
  refine W ?_
  refine LS_bxn rfl rfl fun b2 => ?_
  try (dsimp only [st, setL, AV.cells, List.set_cons_zero, List.set_cons_succ, List.drop_zero, List.drop_succ_cons, List.take_zero, List.take_succ_cons, Nat.zero_add, Nat.add_zero, Nat.reduceAdd, List.cons_append, List.nil_append, List.eraseIdx_cons_zero, List.eraseIdx_cons_succ])
  refine W ?_
  refine LS_al rfl fun b3 => ?_
  try (dsimp only [st, setL, AV.cells, List.set_cons_zero, List.set_cons_succ, List.drop_zero, List.drop_succ_cons, List.take_zero, List.take_succ_cons, Nat.zero_add, Nat.add_zero, Nat.reduceAdd, List.cons_append, List.nil_append, List.eraseIdx_cons_zero, List.eraseIdx_cons_succ])
  refine W ?_
  refine LIL_ind (fun n a L => ∃ (e1 : Int) (x out : MatM), (∃ r : Nat → AV, a = [r 0, r 1, .i .i64 e1, .f 64 [.p b 0], .p b1 0, .p b2 0, r 6, r 7, .p b3 0, r 9, r 10, r 11, r 12, r 13, r 14, r 15, r 16, r 17, r 18, r 19, r 20, r 21, r 22, r 23, r 24]) ∧ L = [.pt b3 (enMat ⟨0, 0, 0, 0⟩), .pt b2 (enMat out), .pt b1 (enMat x)] ∧ matOk m x = true ∧ matOk m out = true ∧ 0 ≤ e1 ∧ e1 ≤ n ∧ e1 ≤ 1000000 ∧
      matPow m e.toNat e q matI = matPow m n e1 x out)
    e.toNat ⟨e, q, matI, exJ rfl, rfl, hq, matI_ok hm0, by omega, by omega, by omega, rfl⟩ ?_
  rintro n a L ⟨e1, x, out, ⟨r, rfl⟩, rfl, hx, ho, he0, hen, he1, heq⟩ IH
  refine W ?_
  (first | refine LS_gt rfl ?_ ?_ | refine LS_gf rfl ?_ ?_ | refine LI_cond rfl ?_ ?_) <;> intro hc <;> have hc' := hc <;> try simp only [decide_eq_true_eq, decide_eq_false_iff_not, Bool.not_eq_true', Bool.not_eq_false', Bool.not_eq_true, Bool.not_eq_false, beq_iff_eq, bne_iff_ne, beq_eq_false_iff_ne, bne_eq_false_iff_eq, Int.not_lt, Int.not_le, ge_iff_le, gt_iff_lt, not_and, ne_eq, Decidable.not_not] at hc'
  all_goals (try (dsimp only [st, setL, AV.cells, List.set_cons_zero, List.set_cons_succ, List.drop_zero, List.drop_succ_cons, List.take_zero, List.take_succ_cons, Nat.zero_add, Nat.add_zero, Nat.reduceAdd, List.cons_append, List.nil_append, List.eraseIdx_cons_zero, List.eraseIdx_cons_succ]))
  all_goals (refine W ?_)
  · have hh := half_lt hc'
    obtain ⟨n, rfl⟩ : ∃ q, n = q + 1 := ⟨n - 1, by omega⟩
    rw [matPow, if_pos hc'] at heq
    refine LS_rm rfl rfl (by omega) ?_
    try (dsimp only [st, setL, AV.cells, List.set_cons_zero, List.set_cons_succ, List.drop_zero, List.drop_succ_cons, List.take_zero, List.take_succ_cons, Nat.zero_add, Nat.add_zero, Nat.reduceAdd, List.cons_append, List.nil_append, List.eraseIdx_cons_zero, List.eraseIdx_cons_succ])
    refine W ?_
    (first | refine LS_gt rfl ?_ ?_ | refine LS_gf rfl ?_ ?_ | refine LI_cond rfl ?_ ?_) <;> intro hc <;> have hc' := hc <;> try simp only [decide_eq_true_eq, decide_eq_false_iff_not, Bool.not_eq_true', Bool.not_eq_false', Bool.not_eq_true, Bool.not_eq_false, beq_iff_eq, bne_iff_ne, beq_eq_false_iff_ne, bne_eq_false_iff_eq, Int.not_lt, Int.not_le, ge_iff_le, gt_iff_lt, not_and, ne_eq, Decidable.not_not] at hc'
    all_goals (try (dsimp only [st, setL, AV.cells, List.set_cons_zero, List.set_cons_succ, List.drop_zero, List.drop_succ_cons, List.take_zero, List.take_succ_cons, Nat.zero_add, Nat.add_zero, Nat.reduceAdd, List.cons_append, List.nil_append, List.eraseIdx_cons_zero, List.eraseIdx_cons_succ]))
    all_goals (refine W ?_)
    · rw [if_pos hc'] at heq
      refine LS_c0 (fun h' HL wf => matrixTimes_1_ac out x m b h' (HL.le.cell hb) hm0 hm1 ho hx) rfl rfl ?_
      try (dsimp only [st, setL, AV.cells, List.set_cons_zero, List.set_cons_succ, List.drop_zero, List.drop_succ_cons, List.take_zero, List.take_succ_cons, Nat.zero_add, Nat.add_zero, Nat.reduceAdd, List.cons_append, List.nil_append, List.eraseIdx_cons_zero, List.eraseIdx_cons_succ])
      refine W ?_
      refine LS_c0 (fun h' HL wf => matrixTimes_1_ac x x m b h' (HL.le.cell hb) hm0 hm1 hx hx) rfl rfl ?_
      try (dsimp only [st, setL, AV.cells, List.set_cons_zero, List.set_cons_succ, List.drop_zero, List.drop_succ_cons, List.take_zero, List.take_succ_cons, Nat.zero_add, Nat.add_zero, Nat.reduceAdd, List.cons_append, List.nil_append, List.eraseIdx_cons_zero, List.eraseIdx_cons_succ])
      refine W ?_
      refine LS_qu rfl rfl (by omega) ?_
      try (dsimp only [st, setL, AV.cells, List.set_cons_zero, List.set_cons_succ, List.drop_zero, List.drop_succ_cons, List.take_zero, List.take_succ_cons, Nat.zero_add, Nat.add_zero, Nat.reduceAdd, List.cons_append, List.nil_append, List.eraseIdx_cons_zero, List.eraseIdx_cons_succ])
      refine W ?_
      rw [tdiv2_wrap he0 (by omega)]
      refine IH n _ _ (by omega) ⟨_, _, _, exJ rfl, rfl, matMul_ok hm0 hx hx, matMul_ok hm0 ho hx, by omega, by omega, by omega, heq⟩
    · rw [if_neg hc'] at heq
      refine LS_c0 (fun h' HL wf => matrixTimes_1_ac x x m b h' (HL.le.cell hb) hm0 hm1 hx hx) rfl rfl ?_
      try (dsimp only [st, setL, AV.cells, List.set_cons_zero, List.set_cons_succ, List.drop_zero, List.drop_succ_cons, List.take_zero, List.take_succ_cons, Nat.zero_add, Nat.add_zero, Nat.reduceAdd, List.cons_append, List.nil_append, List.eraseIdx_cons_zero, List.eraseIdx_cons_succ])
      refine W ?_
      refine LS_qu rfl rfl (by omega) ?_
      try (dsimp only [st, setL, AV.cells, List.set_cons_zero, List.set_cons_succ, List.drop_zero, List.drop_succ_cons, List.take_zero, List.take_succ_cons, Nat.zero_add, Nat.add_zero, Nat.reduceAdd, List.cons_append, List.nil_append, List.eraseIdx_cons_zero, List.eraseIdx_cons_succ])
      refine W ?_
      rw [tdiv2_wrap he0 (by omega)]
      refine IH n _ _ (by omega) ⟨_, _, _, exJ rfl, rfl, matMul_ok hm0 hx hx, ho, by omega, by omega, by omega, heq⟩
  · rw [heq, matPow_end m (by omega)]
    refine RET fun h' HL => ?_
    try dsimp only [oneA]
    exact ⟨rfl, HL.le⟩

theorem implMPow_ac (q : MatM) (e m : Int) (h : AH) : AC Try.prog 10 [.agg (enMat q), .i .i64 e, .i .i64 m] h (fun r h' => r = .tup [.agg (enMat (mpowM m e q).1), .b (mpowM m e q).2] ∧ h.le h') := by
  refine e10 _ _ _ fun wf => ?_
  unfold c10
  refine LI_start wf ?_
  refine W ?_
  refine LS_bxn rfl rfl fun b1 => ?_
  try (dsimp only [st, setL, AV.cells, List.set_cons_zero, List.set_cons_succ, List.drop_zero, List.drop_succ_cons, List.take_zero, List.take_succ_cons, Nat.zero_add, Nat.add_zero, Nat.reduceAdd, List.cons_append, List.nil_append, List.eraseIdx_cons_zero, List.eraseIdx_cons_succ])
  refine W ?_
  refine LS_al rfl fun b2 => ?_
  try (dsimp only [st, setL, AV.cells, List.set_cons_zero, List.set_cons_succ, List.drop_zero, List.drop_succ_cons, List.take_zero, List.take_succ_cons, Nat.zero_add, Nat.add_zero, Nat.reduceAdd, List.cons_append, List.nil_append, List.eraseIdx_cons_zero, List.eraseIdx_cons_succ])
  refine W ?_
  refine LS_co (fun h HL wf => residues_ac q h) enI1 rfl rfl fun w hw hws => ?_
  try (dsimp only [st, setL, AV.cells, List.set_cons_zero, List.set_cons_succ, List.drop_zero, List.drop_succ_cons, List.take_zero, List.take_succ_cons, Nat.zero_add, Nat.add_zero, Nat.reduceAdd, List.cons_append, List.nil_append, List.eraseIdx_cons_zero, List.eraseIdx_cons_succ])
  refine W ?_
  refine LS_c0 (fun h' HL wf => residuesOk_ac [q.a, q.b, q.c, q.d] w m h' (HL.rdI 0 rfl enI1 (by decide)) (by simp)) rfl rfl ?_
  try (dsimp only [st, setL, AV.cells, List.set_cons_zero, List.set_cons_succ, List.drop_zero, List.drop_succ_cons, List.take_zero, List.take_succ_cons, Nat.zero_add, Nat.add_zero, Nat.reduceAdd, List.cons_append, List.nil_append, List.eraseIdx_cons_zero, List.eraseIdx_cons_succ])
  refine W ?_
  (first | refine LS_gt rfl ?_ ?_ | refine LS_gf rfl ?_ ?_ | refine LI_cond rfl ?_ ?_) <;> intro hc <;> have hc' := hc <;> try simp only [decide_eq_true_eq, decide_eq_false_iff_not, Bool.not_eq_true', Bool.not_eq_false', Bool.not_eq_true, Bool.not_eq_false, beq_iff_eq, bne_iff_ne, beq_eq_false_iff_ne, bne_eq_false_iff_eq, Int.not_lt, Int.not_le, ge_iff_le, gt_iff_lt, not_and, ne_eq, Decidable.not_not] at hc'
  all_goals (try (dsimp only [st, setL, AV.cells, List.set_cons_zero, List.set_cons_succ, List.drop_zero, List.drop_succ_cons, List.take_zero, List.take_succ_cons, Nat.zero_add, Nat.add_zero, Nat.reduceAdd, List.cons_append, List.nil_append, List.eraseIdx_cons_zero, List.eraseIdx_cons_succ]))
  all_goals (refine W ?_)
  · have h1 := nf hc
    simp only [Bool.and_eq_true, decide_eq_true_eq] at h1
    obtain ⟨hm, hq⟩ := h1
    have hq' : matOk m q = true := by simpa [matOk] using hq
    refine LS_c0' (fun h' HL wf => exponentOk_ac e h') rfl rfl ?_
    try (dsimp only [st, setL, AV.cells, List.set_cons_zero, List.set_cons_succ, List.drop_zero, List.drop_succ_cons, List.take_zero, List.take_succ_cons, Nat.zero_add, Nat.add_zero, Nat.reduceAdd, List.cons_append, List.nil_append, List.eraseIdx_cons_zero, List.eraseIdx_cons_succ])
    refine W ?_
    (first | refine LS_gt rfl ?_ ?_ | refine LS_gf rfl ?_ ?_ | refine LI_cond rfl ?_ ?_) <;> intro hc <;> have hc' := hc <;> try simp only [decide_eq_true_eq, decide_eq_false_iff_not, Bool.not_eq_true', Bool.not_eq_false', Bool.not_eq_true, Bool.not_eq_false, beq_iff_eq, bne_iff_ne, beq_eq_false_iff_ne, bne_eq_false_iff_eq, Int.not_lt, Int.not_le, ge_iff_le, gt_iff_lt, not_and, ne_eq, Decidable.not_not] at hc'
    all_goals (try (dsimp only [st, setL, AV.cells, List.set_cons_zero, List.set_cons_succ, List.drop_zero, List.drop_succ_cons, List.take_zero, List.take_succ_cons, Nat.zero_add, Nat.add_zero, Nat.reduceAdd, List.cons_append, List.nil_append, List.eraseIdx_cons_zero, List.eraseIdx_cons_succ]))
    all_goals (refine W ?_)
    · rw [mpowM_bad (by simp only [mpowOk, nt hc, Bool.and_false])]
      refine RET fun h' HL => ?_
      try dsimp only [oneA]
      exact ⟨rfl, HL.le⟩
    · have he := of_decide_eq_true (nf hc)
      have hok : mpowOk m e q = true := by simp only [mpowOk, hq', hm, he, and_self, decide_true, Bool.and_self]
      rw [mpowM_ok hok]
      refine dz10_0 ?_
      refine WX ?_
      refine W ?_
      refine LX_c1 (fun h' HL wf => matrixTimes_ac m h'.frz) rfl rfl noG ?_
      try (dsimp only [st, setL, AV.cells, List.set_cons_zero, List.set_cons_succ, List.drop_zero, List.drop_succ_cons, List.take_zero, List.take_succ_cons, Nat.zero_add, Nat.add_zero, Nat.reduceAdd, List.cons_append, List.nil_append, List.eraseIdx_cons_zero, List.eraseIdx_cons_succ])
      refine WX ?_
      refine W ?_
      rintro r M ⟨b, rfl, rfl⟩
      try (dsimp only [st, setL, AV.cells, List.set_cons_zero, List.set_cons_succ, List.drop_zero, List.drop_succ_cons, List.take_zero, List.take_succ_cons, Nat.zero_add, Nat.add_zero, Nat.reduceAdd, List.cons_append, List.nil_append, List.eraseIdx_cons_zero, List.eraseIdx_cons_succ])
      refine WX ?_
      refine LX_c0 (fun h' HL wf => powerMat_ac q e m b h'.frz (HL.cellP 0 rfl rfl) hm.1 hm.2 hq' he.1 he.2) rfl rfl noG ?_
      try (dsimp only [st, setL, AV.cells, List.set_cons_zero, List.set_cons_succ, List.drop_zero, List.drop_succ_cons, List.take_zero, List.take_succ_cons, Nat.zero_add, Nat.add_zero, Nat.reduceAdd, List.cons_append, List.nil_append, List.eraseIdx_cons_zero, List.eraseIdx_cons_succ])
      refine WX ?_
      refine W ?_
      refine RET fun h' HL => ?_
      try dsimp only [oneA]
      exact ⟨rfl, HL.le⟩
  · have h1 := nt hc
    rw [mpowM_bad (by
      simp only [mpowOk]
      simp only [matOk]
      rw [← Bool.and_assoc, h1, Bool.false_and])]
    refine RET fun h' HL => ?_
    try dsimp only [oneA]
    exact ⟨rfl, HL.le⟩

theorem lit2 {x y : AV} (hx : x.sc = true) (hy : y.sc = true) : litA 1 0 [(0, x), (1, y)] = some ([x, y].flatMap enV) := by
  have e : ∀ v : AV, v.sc = true → v.cells = [v] := by intro v h; cases v <;> first | rfl | cases h
  simp [litA, e x hx, e y hy, hx, hy, enV]

/-! ### Powers: plain laws -/
theorem tm {x m : Int} (h : 0 ≤ x) : x.tmod m = x % m := Int.tmod_eq_emod_of_nonneg h

theorem pow_mod (a m : Int) : ∀ k : Nat, (a % m) ^ k % m = a ^ k % m
  | 0 => by simp
  | k + 1 => by rw [Int.pow_succ, Int.pow_succ, Int.mul_emod, pow_mod a m k, Int.emod_emod_of_dvd _ (Int.dvd_refl m), ← Int.mul_emod]

theorem mod_mul (a b m : Int) : (a % m * b) % m = (a * b) % m := by rw [Int.mul_emod, Int.emod_emod_of_dvd _ (Int.dvd_refl m), ← Int.mul_emod]

theorem mod_mul' (a b m : Int) : (a * (b % m)) % m = (a * b) % m := by rw [Int.mul_comm, mod_mul, Int.mul_comm]

theorem half_nat {e : Int} (h : 0 ≤ e) : e.tdiv 2 = ((e.toNat / 2 : Nat) : Int) ∧ e.tmod 2 = ((e.toNat % 2 : Nat) : Int) := by
  rw [Int.tdiv_eq_ediv_of_nonneg h, Int.tmod_eq_emod_of_nonneg h]; omega

theorem powL_eq {m : Int} (hm : 2 ≤ m) : ∀ (n : Nat) (e x out : Int), 0 ≤ x → 0 ≤ out → out < m → 0 ≤ e → e ≤ n → powL m n e x out = (out * x ^ e.toNat) % m
  | 0, e, x, out, hx, ho, hom, he, hn => by
    rw [powL, show e.toNat = 0 by omega, Int.pow_zero, Int.mul_one, Int.emod_eq_of_lt ho hom]
  | n + 1, e, x, out, hx, ho, hom, he, hn => by
    rw [powL]
    obtain ⟨h1, h2⟩ := half_nat he
    split
    · have hxx : 0 ≤ x * x := Int.mul_nonneg hx hx
      have hox : 0 ≤ out * x := Int.mul_nonneg ho hx
      have b1 := Int.emod_nonneg (x * x) (b := m) (by omega)
      have b2 := Int.emod_nonneg (out * x) (b := m) (by omega)
      have b3 := Int.emod_lt_of_pos (out * x) (b := m) (by omega)
      rw [tm hxx, tm hox, h1]
      have ih : ∀ o : Int, 0 ≤ o → o < m → powL m n ((e.toNat / 2 : Nat) : Int) ((x * x) % m) o = (o * (x ^ (2 * (e.toNat / 2)))) % m := fun o h0 h1 => by
        rw [powL_eq hm n _ _ o b1 h0 h1 (by omega) (by omega), Int.toNat_natCast, ← mod_mul' o, pow_mod, mod_mul', Int.pow_mul, show x ^ 2 = x * x by rw [Int.pow_succ, Int.pow_succ, Int.pow_zero, Int.one_mul]]
      rw [h2]
      split
      · rename_i ho
        rw [ih _ b2 b3, mod_mul]
        conv => rhs; rw [show e.toNat = 2 * (e.toNat / 2) + 1 by omega, Int.pow_succ, Int.mul_comm (x ^ (2 * (e.toNat / 2))) x, ← Int.mul_assoc]
      · rename_i ho
        rw [ih _ ‹_› hom]
        conv => rhs; rw [show e.toNat = 2 * (e.toNat / 2) by omega]
    · rw [show e.toNat = 0 by omega, Int.pow_zero, Int.mul_one, Int.emod_eq_of_lt ho hom]

def prodP : List Int → List Int → Int
  | e :: es, x :: xs => x ^ e.toNat * prodP es xs
  | _, _ => 1

theorem fldP_eq {m : Int} (hm : 2 ≤ m) : ∀ (es xs : List Int) (out : Int), (∀ e ∈ es, 0 ≤ e) → (∀ x ∈ xs, 0 ≤ x) → 0 ≤ out → out < m → fldP m es xs out = (out * prodP es xs) % m
  | [], xs, out, _, _, h0, h1 => by rw [fldP, prodP, Int.mul_one, Int.emod_eq_of_lt h0 h1] <;> simp
  | e :: es, [], out, _, _, h0, h1 => by rw [fldP, prodP, Int.mul_one, Int.emod_eq_of_lt h0 h1] <;> simp
  | e :: es, x :: xs, out, he, hx, h0, h1 => by
    have he0 := he e (by simp)
    have hx0 := hx x (by simp)
    have hp := powL_eq hm e.toNat e x 1 hx0 (by omega) (by omega) he0 (by omega)
    have b1 := Int.emod_nonneg (1 * x ^ e.toNat) (b := m) (by omega)
    have b2 : 0 ≤ out * (1 * x ^ e.toNat % m) := Int.mul_nonneg h0 b1
    rw [fldP, prodP, hp, tm b2, fldP_eq hm es xs _ (fun e h => he e (by simp [h])) (fun x h => hx x (by simp [h])) (Int.emod_nonneg _ (by omega)) (Int.emod_lt_of_pos _ (by omega)), mod_mul', mod_mul, Int.one_mul, Int.mul_assoc]

/-! Matrices. -/
def redM (m : Int) (a : MatM) : Prop := (0 ≤ a.a ∧ a.a < m) ∧ (0 ≤ a.b ∧ a.b < m) ∧ (0 ≤ a.c ∧ a.c < m) ∧ (0 ≤ a.d ∧ a.d < m)

theorem dot_mod (x y c d m : Int) : (x % m * c + y % m * d) % m = (x * c + y * d) % m := by
  rw [Int.add_emod, mod_mul, mod_mul, ← Int.add_emod]

theorem dot_mod' (x y c d m : Int) : (c * (x % m) + d * (y % m)) % m = (c * x + d * y) % m := by
  rw [Int.add_emod, mod_mul', mod_mul', ← Int.add_emod]

theorem dot_nn {x y z w : Int} (h1 : 0 ≤ x) (h2 : 0 ≤ y) (h3 : 0 ≤ z) (h4 : 0 ≤ w) : 0 ≤ x * y + z * w := Int.add_nonneg (Int.mul_nonneg h1 h2) (Int.mul_nonneg h3 h4)

theorem matMul_e {m : Int} {a b : MatM} (ha : redM m a) (hb : redM m b) : matMul m a b = ⟨(a.a * b.a + a.b * b.c) % m, (a.a * b.b + a.b * b.d) % m, (a.c * b.a + a.d * b.c) % m, (a.c * b.b + a.d * b.d) % m⟩ := by
  obtain ⟨a1, a2, a3, a4⟩ := ha
  obtain ⟨b1, b2, b3, b4⟩ := hb
  rw [matMul, tm (dot_nn a1.1 b1.1 a2.1 b3.1), tm (dot_nn a1.1 b2.1 a2.1 b4.1), tm (dot_nn a3.1 b1.1 a4.1 b3.1), tm (dot_nn a3.1 b2.1 a4.1 b4.1)]

theorem matMul_red {m : Int} (hm : 2 ≤ m) {a b : MatM} (ha : redM m a) (hb : redM m b) : redM m (matMul m a b) := by
  rw [matMul_e ha hb]
  have t : ∀ x : Int, 0 ≤ x % m ∧ x % m < m := fun x => ⟨Int.emod_nonneg _ (by omega), Int.emod_lt_of_pos _ (by omega)⟩
  exact ⟨t _, t _, t _, t _⟩

theorem matMul_assoc {m : Int} (hm : 2 ≤ m) {a b c : MatM} (ha : redM m a) (hb : redM m b) (hc : redM m c) : matMul m (matMul m a b) c = matMul m a (matMul m b c) := by
  rw [matMul_e (matMul_red hm ha hb) hc, matMul_e ha (matMul_red hm hb hc), matMul_e ha hb, matMul_e hb hc]
  simp only [dot_mod, dot_mod', MatM.mk.injEq]
  refine ⟨?_, ?_, ?_, ?_⟩ <;> congr 1 <;> simp only [Int.mul_add, Int.add_mul, Int.mul_assoc] <;> omega

theorem matMul_id {m : Int} (hm : 2 ≤ m) {a : MatM} (ha : redM m a) : matMul m ⟨1, 0, 0, 1⟩ a = a ∧ matMul m a ⟨1, 0, 0, 1⟩ = a := by
  have hi : redM m ⟨1, 0, 0, 1⟩ := by refine ⟨?_, ?_, ?_, ?_⟩ <;> constructor <;> dsimp only <;> omega
  rw [matMul_e hi ha, matMul_e ha hi]
  obtain ⟨a, b, c, d⟩ := a
  obtain ⟨a1, a2, a3, a4⟩ := ha
  dsimp only at a1 a2 a3 a4
  simp only [Int.one_mul, Int.zero_mul, Int.mul_one, Int.mul_zero, Int.add_zero, Int.zero_add, Int.emod_eq_of_lt a1.1 a1.2, Int.emod_eq_of_lt a2.1 a2.2, Int.emod_eq_of_lt a3.1 a3.2, Int.emod_eq_of_lt a4.1 a4.2, and_self]

def pwM (m : Int) (a : MatM) : Nat → MatM
  | 0 => ⟨1, 0, 0, 1⟩
  | k + 1 => matMul m (pwM m a k) a

theorem idM_red {m : Int} (hm : 2 ≤ m) : redM m ⟨1, 0, 0, 1⟩ := by refine ⟨?_, ?_, ?_, ?_⟩ <;> constructor <;> dsimp only <;> omega

theorem pwM_red {m : Int} (hm : 2 ≤ m) {a : MatM} (ha : redM m a) : ∀ k, redM m (pwM m a k)
  | 0 => idM_red hm
  | k + 1 => matMul_red hm (pwM_red hm ha k) ha

theorem pwM_left {m : Int} (hm : 2 ≤ m) {a : MatM} (ha : redM m a) : ∀ k, matMul m a (pwM m a k) = pwM m a (k + 1)
  | 0 => by rw [pwM, (matMul_id hm ha).2, pwM, pwM, (matMul_id hm ha).1]
  | k + 1 => by
    rw [pwM, ← matMul_assoc hm ha (pwM_red hm ha k) ha, pwM_left hm ha k]
    rfl

theorem pwM_sq {m : Int} (hm : 2 ≤ m) {a : MatM} (ha : redM m a) : ∀ k, pwM m (matMul m a a) k = pwM m a (2 * k)
  | 0 => rfl
  | k + 1 => by
    rw [pwM, pwM_sq hm ha k, ← matMul_assoc hm (pwM_red hm ha _) ha ha]
    rfl

theorem matPow_eq {m : Int} (hm : 2 ≤ m) : ∀ (n : Nat) (e : Int) (x out : MatM), redM m x → redM m out → 0 ≤ e → e ≤ n → matPow m n e x out = matMul m out (pwM m x e.toNat)
  | 0, e, x, out, hx, ho, he, hn => by rw [matPow, show e.toNat = 0 by omega, pwM, (matMul_id hm ho).2]
  | n + 1, e, x, out, hx, ho, he, hn => by
    rw [matPow]
    obtain ⟨h1, h2⟩ := half_nat he
    split
    · rw [h1, h2]
      have hxx := matMul_red hm hx hx
      split
      · rename_i h3
        rw [matPow_eq hm n _ _ _ hxx (matMul_red hm ho hx) (by omega) (by omega), Int.toNat_natCast, pwM_sq hm hx, matMul_assoc hm ho hx (pwM_red hm hx _), pwM_left hm hx, show e.toNat = 2 * (e.toNat / 2) + 1 by omega]
        congr 2
        omega
      · rename_i h3
        rw [matPow_eq hm n _ _ _ hxx ho (by omega) (by omega), Int.toNat_natCast, pwM_sq hm hx]
        congr 2
        omega
    · rw [show e.toNat = 0 by omega, pwM, (matMul_id hm ho).2]

/-! ### The law of matrices -/
theorem seMat : SeI Try.prog 37 4 := ⟨by kernel_rfl, by kernel_rfl, by kernel_rfl, by kernel_rfl, by kernel_rfl⟩

def matL (x : MatM) : List Int := [x.a, x.b, x.c, x.d]

theorem OpV_mne {a : List AV} {T' : TypeId} {u v : Operand} {x y : MatM} (hx : ev a u = some (.agg (enMat x))) (hy : ev a v = some (.agg (enMat y))) : OpV Try.prog (.binOp .neq 37 u v T') a (.b (!(matL x == matL y))) := OpV_seI seMat rfl rfl hx hy _ (.inr ⟨rfl, rfl⟩)

theorem redM_of {m : Int} {x : MatM} (h : matOk m x = true) : redM m x := by
  obtain ⟨h1, h2, h3, h4⟩ := matOk_out h
  exact ⟨by omega, by omega, by omega, by omega⟩

/-! ### Plans that are run -/
theorem Clone_int_ac (l : List Int) (v : AV) (h : AH) (hR : RdG 1 enI h v l) (hl : l.length ≤ 1048576) :
    AC Try.prog 68 [v] h (fun r h' => Own h 1 enI h' r l) := by
  rcases hR.rd with rfl | ⟨b, o, c, rfl, g1, g2⟩
  · have hl0 : l = [] := by have := hR.len; simp [lenA] at this; exact List.length_eq_zero_iff.1 this.symm
    subst hl0
    refine e68 _ fun wf => ?_
    unfold c68
    refine LI_start wf ?_
    refine W ?_
    refine LS_snl rfl rfl true true (.inl ⟨rfl, rfl⟩) (.inl ⟨rfl, rfl⟩) ?_
    try (dsimp only [st, setL, AV.cells, List.set_cons_zero, List.set_cons_succ, List.drop_zero, List.drop_succ_cons, List.take_zero, List.take_succ_cons, Nat.zero_add, Nat.add_zero, Nat.reduceAdd, List.cons_append, List.nil_append, List.eraseIdx_cons_zero, List.eraseIdx_cons_succ])
    refine W ?_
    refine RET fun h' HL => ?_
    try dsimp only [oneA]
    exact Own.nil HL.wf0 HL.le HL.wf _ _
  · refine e68 _ fun wf => ?_
    unfold c68
    refine LI_start wf ?_
    refine W ?_
    refine LS_snl rfl rfl false false (.inr ⟨_, _, _, _, rfl, rfl⟩) (.inl ⟨rfl, rfl⟩) ?_
    try (dsimp only [st, setL, AV.cells, List.set_cons_zero, List.set_cons_succ, List.drop_zero, List.drop_succ_cons, List.take_zero, List.take_succ_cons, Nat.zero_add, Nat.add_zero, Nat.reduceAdd, List.cons_append, List.nil_append, List.eraseIdx_cons_zero, List.eraseIdx_cons_succ])
    refine W ?_
    refine LS_lt ([] : List Int) rfl rfl (by decide) rfl rfl rfl rfl enI1 rfl rfl fun w1 h1 s1 => ?_
    try (dsimp only [st, setL, AV.cells, List.set_cons_zero, List.set_cons_succ, List.drop_zero, List.drop_succ_cons, List.take_zero, List.take_succ_cons, Nat.zero_add, Nat.add_zero, Nat.reduceAdd, List.cons_append, List.nil_append, List.eraseIdx_cons_zero, List.eraseIdx_cons_succ])
    refine W ?_
    refine LS_ap0 0 rfl (fun h' HL => hR.le HL.le) enI1 (by decide) (by simp; omega) (by simp; omega) rfl rfl rfl fun w2 hw2 sw2 => ?_
    try (dsimp only [st, setL, AV.cells, List.set_cons_zero, List.set_cons_succ, List.drop_zero, List.drop_succ_cons, List.take_zero, List.take_succ_cons, Nat.zero_add, Nat.add_zero, Nat.reduceAdd, List.cons_append, List.nil_append, List.eraseIdx_cons_zero, List.eraseIdx_cons_succ])
    refine W ?_
    refine RET fun h' HL => ?_
    try dsimp only [oneA]
    exact HL.ownI 0 rfl enI1 (by decide)

theorem Clone_Mat_ac (l : List MatM) (v : AV) (h : AH) (hR : RdG 4 enMat h v l) (hl : l.length ≤ 1048576) :
    AC Try.prog 63 [v] h (fun r h' => Own h 4 enMat h' r l) := by
  rcases hR.rd with rfl | ⟨b, o, c, rfl, g1, g2⟩
  · have hl0 : l = [] := by have := hR.len; simp [lenA] at this; exact List.length_eq_zero_iff.1 this.symm
    subst hl0
    refine e63 _ fun wf => ?_
    unfold c63
    refine LI_start wf ?_
    refine W ?_
    refine LS_snl rfl rfl true true (.inl ⟨rfl, rfl⟩) (.inl ⟨rfl, rfl⟩) ?_
    try (dsimp only [st, setL, AV.cells, List.set_cons_zero, List.set_cons_succ, List.drop_zero, List.drop_succ_cons, List.take_zero, List.take_succ_cons, Nat.zero_add, Nat.add_zero, Nat.reduceAdd, List.cons_append, List.nil_append, List.eraseIdx_cons_zero, List.eraseIdx_cons_succ])
    refine W ?_
    refine RET fun h' HL => ?_
    try dsimp only [oneA]
    exact Own.nil HL.wf0 HL.le HL.wf _ _
  · refine e63 _ fun wf => ?_
    unfold c63
    refine LI_start wf ?_
    refine W ?_
    refine LS_snl rfl rfl false false (.inr ⟨_, _, _, _, rfl, rfl⟩) (.inl ⟨rfl, rfl⟩) ?_
    try (dsimp only [st, setL, AV.cells, List.set_cons_zero, List.set_cons_succ, List.drop_zero, List.drop_succ_cons, List.take_zero, List.take_succ_cons, Nat.zero_add, Nat.add_zero, Nat.reduceAdd, List.cons_append, List.nil_append, List.eraseIdx_cons_zero, List.eraseIdx_cons_succ])
    refine W ?_
    refine LS_lt ([] : List MatM) rfl rfl (by decide) rfl rfl rfl rfl enMat4 rfl rfl fun w1 h1 s1 => ?_
    try (dsimp only [st, setL, AV.cells, List.set_cons_zero, List.set_cons_succ, List.drop_zero, List.drop_succ_cons, List.take_zero, List.take_succ_cons, Nat.zero_add, Nat.add_zero, Nat.reduceAdd, List.cons_append, List.nil_append, List.eraseIdx_cons_zero, List.eraseIdx_cons_succ])
    refine W ?_
    refine LS_ap0 0 rfl (fun h' HL => hR.le HL.le) enMat4 (by decide) (by simp; omega) (by simp; omega) rfl rfl rfl fun w2 hw2 sw2 => ?_
    try (dsimp only [st, setL, AV.cells, List.set_cons_zero, List.set_cons_succ, List.drop_zero, List.drop_succ_cons, List.take_zero, List.take_succ_cons, Nat.zero_add, Nat.add_zero, Nat.reduceAdd, List.cons_append, List.nil_append, List.eraseIdx_cons_zero, List.eraseIdx_cons_succ])
    refine W ?_
    refine RET fun h' HL => ?_
    try dsimp only [oneA]
    exact HL.ownI 0 rfl enMat4 (by decide)

def runS {α : Type} (F : α → α → α) (o : List α) (s : Int × Int) : List α := match o[s.1.toNat]?, o[s.2.toNat]? with
  | some x, some y => o ++ [F x y]
  | _, _ => o

def runM {α : Type} (F : α → α → α) (l : List (Int × Int)) (o : List α) : List α := l.foldl (runS F) o

def pickM {α : Type} (l : List α) (ix : List Int) : List α := ix.filterMap fun i => l[i.toNat]?

theorem pickM_len {α : Type} (l : List α) (ix : List Int) : (pickM l ix).length ≤ ix.length := List.length_filterMap_le _ _

theorem runM_cons {α : Type} (F : α → α → α) (s : Int × Int) (l : List (Int × Int)) (o : List α) : runM F (s :: l) o = runM F l (runS F o s) := rfl

theorem runM_len {α : Type} {F : α → α → α} {n : Int} (hn : 0 ≤ n) : ∀ (l : List (Int × Int)) (i : Nat) (o : List α), formedS n i l = true → (o.length : Int) = n + i → ((runM F l o).length : Int) = n + i + l.length
  | [], i, o, _, ho => by simpa [runM] using ho
  | s :: l, i, o, hf, ho => by
    have hs := formedS_get (i := 0) (s := s) hf rfl
    have h1 : s.1.toNat < o.length := by omega
    have h2 : s.2.toNat < o.length := by omega
    have e : runS F o s = o ++ [F o[s.1.toNat] o[s.2.toNat]] := by simp [runS, h1, h2]
    have hf' : formedS n (i + 1) l = true := by simp only [formedS, Bool.and_eq_true] at hf; exact hf.2
    have := runM_len (F := F) hn l (i + 1) (o ++ [F o[s.1.toNat] o[s.2.toNat]]) hf' (by simp; omega)
    rw [runM_cons, e, this]
    simp
    omega

def vMat (m : MatM) : AV := .agg (enMat m)

theorem run_Mat_ac (F : MatM → MatM → MatM) (P : MatM → Prop) (C : AH → Prop) (hC : Kept C) (g : FuncId) (caps : List AV) (p : PlanM) (l : List MatM) (b : Nat) (vs vo w : AV) (h : AH) (hCh : C h) (hp : PlP h b p vs vo) (hl : RdG 4 enMat h w l) (hk : planOk p = true)
    (hn : (l.length : Int) = p.n) (hPl : ∀ x ∈ l, P x) (hPF : ∀ x y, P x → P y → P (F x y))
    (hF : ∀ h' x y, C h' → P x → P y → AC Try.prog g ([vMat x, vMat y] ++ caps) h' (fun r h'' => r = vMat (F x y) ∧ h'.le h'')) :
    AC Try.prog 31 [.p b 0, w, .f g caps] h (fun r h' => Own h 4 enMat h' r (runM F p.steps l)) := by
  have c0 := hp.c0
  have c1 := hp.c1
  have c2 := hp.c2
  have hs := hp.steps
  obtain ⟨h1, h2, h3, h4, hf, h6⟩ := planOk_out hk
  refine e31 _ _ _ fun wf => ?_
  unfold c31
  refine LI_start wf ?_
  refine W ?_
  refine LS_co (fun h' HL wf => Clone_Mat_ac l w h' (hl.le HL.le) (by omega)) enMat4 rfl rfl fun w1 hw1 sw1 => ?_
  try (dsimp only [st, setL, AV.cells, List.set_cons_zero, List.set_cons_succ, List.drop_zero, List.drop_succ_cons, List.take_zero, List.take_succ_cons, Nat.zero_add, Nat.add_zero, Nat.reduceAdd, List.cons_append, List.nil_append, List.eraseIdx_cons_zero, List.eraseIdx_cons_succ])
  refine W ?_
  refine LIL_ind (fun n a L => ∃ (i : Int) (u : AV) (o : List MatM), (∃ r : Nat → AV, a = [r 0, r 1, .f g caps, r 3, r 4, r 5, r 6, u, r 8, r 9, r 10, r 11, r 12, r 13, r 14, vs, .i .i64 p.steps.length, .i .i64 i, r 18, r 19, r 20, r 21, r 22, r 23, r 24, r 25, r 26, r 27, r 28, r 29, r 30, r 31, r 32, r 33, r 34, r 35, r 36, r 37]) ∧ L = [.sl u 4 (o.flatMap enMat)] ∧ 0 ≤ i ∧ i + n = p.steps.length ∧ runM F p.steps l = runM F (p.steps.drop i.toNat) o ∧ (o.length : Int) = p.n + i ∧ ∀ x ∈ o, P x)
    p.steps.length ⟨0, _, l, exJ rfl, rfl, by omega, by omega, rfl, by omega, hPl⟩ ?_
  rintro n a L ⟨i, u, o, ⟨r, rfl⟩, rfl, h0, hn', heq, hol, hPo⟩ IH
  refine W ?_
  (first | refine LS_gt rfl ?_ ?_ | refine LS_gf rfl ?_ ?_ | refine LI_cond rfl ?_ ?_) <;> intro hc <;> have hc' := hc <;> try simp only [decide_eq_true_eq, decide_eq_false_iff_not, Bool.not_eq_true', Bool.not_eq_false', Bool.not_eq_true, Bool.not_eq_false, beq_iff_eq, bne_iff_ne, beq_eq_false_iff_ne, bne_eq_false_iff_eq, Int.not_lt, Int.not_le, ge_iff_le, gt_iff_lt, not_and, ne_eq, Decidable.not_not] at hc'
  all_goals (try (dsimp only [st, setL, AV.cells, List.set_cons_zero, List.set_cons_succ, List.drop_zero, List.drop_succ_cons, List.take_zero, List.take_succ_cons, Nat.zero_add, Nat.add_zero, Nat.reduceAdd, List.cons_append, List.nil_append, List.eraseIdx_cons_zero, List.eraseIdx_cons_succ]))
  all_goals (refine W ?_)
  · obtain ⟨s, hs', _, hd⟩ := drop_at (l := p.steps) h0 hc'
    have hb := formedS_get hf hs'
    have l1 : s.1.toNat < o.length := by omega
    have l2 : s.2.toNat < o.length := by omega
    have g1 : o[s.1.toNat]? = some o[s.1.toNat] := List.getElem?_eq_getElem l1
    have g2 : o[s.2.toNat]? = some o[s.2.toNat] := List.getElem?_eq_getElem l2
    have p1 : P o[s.1.toNat] := hPo _ (List.getElem_mem l1)
    have p2 : P o[s.2.toNat] := hPo _ (List.getElem_mem l2)
    have e : runS F o s = o ++ [F o[s.1.toNat] o[s.2.toNat]] := by simp [runS, g1, g2]
    rw [hd, runM_cons, e] at heq
    generalize o[s.1.toNat] = x at *
    generalize o[s.2.toNat] = y at *
    refine LS_ix (fun h' HL => hs.le HL.le) enStep2 hs' h0 rfl rfl fun q1 o1 hrow1 => ?_
    try (dsimp only [st, setL, AV.cells, List.set_cons_zero, List.set_cons_succ, List.drop_zero, List.drop_succ_cons, List.take_zero, List.take_succ_cons, Nat.zero_add, Nat.add_zero, Nat.reduceAdd, List.cons_append, List.nil_append, List.eraseIdx_cons_zero, List.eraseIdx_cons_succ])
    refine W ?_
    refine LS_al rfl fun b3 => ?_
    try (dsimp only [st, setL, AV.cells, List.set_cons_zero, List.set_cons_succ, List.drop_zero, List.drop_succ_cons, List.take_zero, List.take_succ_cons, Nat.zero_add, Nat.add_zero, Nat.reduceAdd, List.cons_append, List.nil_append, List.eraseIdx_cons_zero, List.eraseIdx_cons_succ])
    refine W ?_
    refine dz31_0 ?_
    refine WX ?_
    refine W ?_
    refine LX_ix (fun h' HL => HL.rdI 1 rfl enMat4 (by decide)) enMat4 g1 (by omega) rfl rfl noG fun q2 o2 hrow2 => ?_
    try (dsimp only [st, setL, AV.cells, List.set_cons_zero, List.set_cons_succ, List.drop_zero, List.drop_succ_cons, List.take_zero, List.take_succ_cons, Nat.zero_add, Nat.add_zero, Nat.reduceAdd, List.cons_append, List.nil_append, List.eraseIdx_cons_zero, List.eraseIdx_cons_succ])
    refine WX ?_
    refine W ?_
    refine LX_ix (fun h' HL => HL.rdI 1 rfl enMat4 (by decide)) enMat4 g2 (by omega) rfl rfl noG fun q3 o3 hrow3 => ?_
    try (dsimp only [st, setL, AV.cells, List.set_cons_zero, List.set_cons_succ, List.drop_zero, List.drop_succ_cons, List.take_zero, List.take_succ_cons, Nat.zero_add, Nat.add_zero, Nat.reduceAdd, List.cons_append, List.nil_append, List.eraseIdx_cons_zero, List.eraseIdx_cons_succ])
    refine WX ?_
    refine W ?_
    refine LX_c0 (fun h' HL wf => hF h'.frz x y (hC.frz _ (hC.le _ _ hCh HL.le)) p1 p2) rfl rfl noG ?_
    try (dsimp only [st, setL, AV.cells, List.set_cons_zero, List.set_cons_succ, List.drop_zero, List.drop_succ_cons, List.take_zero, List.take_succ_cons, Nat.zero_add, Nat.add_zero, Nat.reduceAdd, List.cons_append, List.nil_append, List.eraseIdx_cons_zero, List.eraseIdx_cons_succ])
    refine WX ?_
    refine W ?_
    refine LX_lt [F x y] rfl rfl (by decide) rfl rfl rfl rfl enMat4 rfl rfl noG fun w4 hw4 sw4 => ?_
    try (dsimp only [st, setL, AV.cells, List.set_cons_zero, List.set_cons_succ, List.drop_zero, List.drop_succ_cons, List.take_zero, List.take_succ_cons, Nat.zero_add, Nat.add_zero, Nat.reduceAdd, List.cons_append, List.nil_append, List.eraseIdx_cons_zero, List.eraseIdx_cons_succ])
    refine WX ?_
    refine W ?_
    refine LX_f noG (LO_ap 2 rfl (fun h' HL => HL.rdI 0 rfl enMat4 (by decide)) enMat4 (by decide) (by simp) (by simp; omega) (by simp; omega) rfl rfl rfl fun w5 hw5 sw5 => ?_)
    try (dsimp only [st, setL, AV.cells, List.set_cons_zero, List.set_cons_succ, List.drop_zero, List.drop_succ_cons, List.take_zero, List.take_succ_cons, Nat.zero_add, Nat.add_zero, Nat.reduceAdd, List.cons_append, List.nil_append, List.eraseIdx_cons_zero, List.eraseIdx_cons_succ])
    refine WX ?_
    refine W ?_
    refine LIL_drop 2 ?_
    refine IH (n - 1) _ _ (by omega) ⟨i + 1, _, _, exJ rfl, rfl, by omega, by omega, by rw [toNat_succ h0]; exact heq, by simp; omega, ?_⟩
    intro z hz
    rcases List.mem_append.1 hz with hz | hz
    · exact hPo z hz
    · rw [List.mem_singleton.1 hz]; exact hPF x y p1 p2
  · rw [List.drop_eq_nil_of_le (by omega)] at heq
    refine RET fun h' HL => ?_
    try dsimp only [oneA]
    rw [heq]
    exact HL.ownI 0 rfl enMat4 (by decide)

theorem outputsOf_Mat_ac (p : PlanM) (l : List MatM) (b : Nat) (vs vo w : AV) (h : AH) (hp : PlP h b p vs vo) (hl : RdG 4 enMat h w l) (ho1 : p.outs.length ≤ 1048576) (hob : ∀ i ∈ p.outs, 0 ≤ i ∧ i < l.length) :
    AC Try.prog 30 [.p b 0, w] h (fun r h' => Own h 4 enMat h' r (pickM l p.outs)) := by
  have c2 := hp.c2
  have ho := hp.outs
  refine e30 _ _ fun wf => ?_
  unfold c30
  refine LI_start wf ?_
  refine W ?_
  refine LS_lt ([] : List MatM) rfl rfl (by decide) rfl rfl rfl rfl enMat4 rfl rfl fun lit3 hlit3 slit3 => ?_
  try (dsimp only [st, setL, AV.cells, List.set_cons_zero, List.set_cons_succ, List.drop_zero, List.drop_succ_cons, List.take_zero, List.take_succ_cons, Nat.zero_add, Nat.add_zero, Nat.reduceAdd, List.cons_append, List.nil_append, List.eraseIdx_cons_zero, List.eraseIdx_cons_succ])
  refine W ?_
  refine LIL_ind (fun n a L => ∃ (i : Int) (u : AV), (∃ r : Nat → AV, a = [r 0, w, r 2, r 3, r 4, u, r 6, r 7, r 8, r 9, r 10, r 11, vo, .i .i64 p.outs.length, .i .i64 i, r 15, r 16, r 17, r 18, r 19, r 20, r 21, r 22, r 23, r 24, r 25, r 26]) ∧ L = [.sl u 4 ((pickM l (p.outs.take i.toNat)).flatMap enMat)] ∧ 0 ≤ i ∧ i + n = p.outs.length)
    p.outs.length ⟨0, _, exJ rfl, rfl, by omega, by omega⟩ ?_
  rintro n a L ⟨i, u, ⟨r, rfl⟩, rfl, h0, hn⟩ IH
  have hel := pickM_len l (p.outs.take i.toNat)
  rw [List.length_take] at hel
  refine W ?_
  (first | refine LS_gt rfl ?_ ?_ | refine LS_gf rfl ?_ ?_ | refine LI_cond rfl ?_ ?_) <;> intro hc <;> have hc' := hc <;> try simp only [decide_eq_true_eq, decide_eq_false_iff_not, Bool.not_eq_true', Bool.not_eq_false', Bool.not_eq_true, Bool.not_eq_false, beq_iff_eq, bne_iff_ne, beq_eq_false_iff_ne, bne_eq_false_iff_eq, Int.not_lt, Int.not_le, ge_iff_le, gt_iff_lt, not_and, ne_eq, Decidable.not_not] at hc'
  all_goals (try (dsimp only [st, setL, AV.cells, List.set_cons_zero, List.set_cons_succ, List.drop_zero, List.drop_succ_cons, List.take_zero, List.take_succ_cons, Nat.zero_add, Nat.add_zero, Nat.reduceAdd, List.cons_append, List.nil_append, List.eraseIdx_cons_zero, List.eraseIdx_cons_succ]))
  all_goals (refine W ?_)
  · obtain ⟨y, hy, hym, hd⟩ := drop_at (l := p.outs) h0 hc'
    have hyb := hob y hym
    have l1 : y.toNat < l.length := by omega
    have g1 : l[y.toNat]? = some l[y.toNat] := List.getElem?_eq_getElem l1
    have e : pickM l (p.outs.take (i + 1).toNat) = pickM l (p.outs.take i.toNat) ++ [l[y.toNat]] := by
      rw [toNat_succ h0, take_snoc hy, pickM, List.filterMap_append]
      simp [g1, pickM]
    refine LS_ix (fun h' HL => ho.le HL.le) enI1 hy h0 rfl rfl fun q1 o1 hrow1 => ?_
    try (dsimp only [st, setL, AV.cells, List.set_cons_zero, List.set_cons_succ, List.drop_zero, List.drop_succ_cons, List.take_zero, List.take_succ_cons, Nat.zero_add, Nat.add_zero, Nat.reduceAdd, List.cons_append, List.nil_append, List.eraseIdx_cons_zero, List.eraseIdx_cons_succ])
    refine W ?_
    refine LS_ix (fun h' HL => hl.le HL.le) enMat4 g1 hyb.1 rfl rfl fun q2 o2 hrow2 => ?_
    try (dsimp only [st, setL, AV.cells, List.set_cons_zero, List.set_cons_succ, List.drop_zero, List.drop_succ_cons, List.take_zero, List.take_succ_cons, Nat.zero_add, Nat.add_zero, Nat.reduceAdd, List.cons_append, List.nil_append, List.eraseIdx_cons_zero, List.eraseIdx_cons_succ])
    refine W ?_
    refine LS_lt [l[y.toNat]] rfl rfl (by decide) rfl rfl rfl rfl enMat4 rfl rfl fun lit4 hlit4 slit4 => ?_
    try (dsimp only [st, setL, AV.cells, List.set_cons_zero, List.set_cons_succ, List.drop_zero, List.drop_succ_cons, List.take_zero, List.take_succ_cons, Nat.zero_add, Nat.add_zero, Nat.reduceAdd, List.cons_append, List.nil_append, List.eraseIdx_cons_zero, List.eraseIdx_cons_succ])
    refine W ?_
    refine LS_ap 1 rfl (fun h' HL => HL.rdI 0 rfl enMat4 (by decide)) enMat4 (by decide) (by simp) (by simp; omega) (by simp; omega) rfl rfl rfl fun w5 hw5 sw5 => ?_
    try (dsimp only [st, setL, AV.cells, List.set_cons_zero, List.set_cons_succ, List.drop_zero, List.drop_succ_cons, List.take_zero, List.take_succ_cons, Nat.zero_add, Nat.add_zero, Nat.reduceAdd, List.cons_append, List.nil_append, List.eraseIdx_cons_zero, List.eraseIdx_cons_succ])
    refine W ?_
    refine LIL_drop 1 ?_
    refine IH (n - 1) _ _ (by omega) ⟨i + 1, _, exJ rfl, by rw [e]; rfl, by omega, by omega⟩
  · have ei : i.toNat = p.outs.length := by omega
    rw [ei, List.take_length]
    refine RET fun h' HL => ?_
    try dsimp only [oneA]
    exact HL.ownI 0 rfl enMat4 (by decide)

/-! Residues. -/
def mulM (m x y : Int) : Int := (x * y).tmod m

def inM (m x : Int) : Prop := 0 ≤ x ∧ x ≤ m - 1

def resOk (m : Int) (l : List Int) : Bool := decide (2 ≤ m ∧ m ≤ 10000) && l.all (fun x => decide (0 ≤ x ∧ x ≤ m - 1))

theorem outs_in {α : Type} {F : α → α → α} {p : PlanM} (hk : planOk p = true) {l : List α} (hn : (l.length : Int) = p.n) : ∀ i ∈ p.outs, 0 ≤ i ∧ i < (runM F p.steps l).length := by
  obtain ⟨h1, h2, h3, h4, hf, h6⟩ := planOk_out hk
  intro i hi
  have := of_decide_eq_true (List.all_eq_true.1 h6 i hi)
  have e := runM_len (F := F) (by omega) p.steps 0 l hf (by omega)
  omega

theorem runM_pre {α : Type} (F : α → α → α) : ∀ (l : List (Int × Int)) (o : List α), ∃ t, runM F l o = o ++ t
  | [], o => ⟨[], by simp [runM]⟩
  | s :: l, o => by
    rw [runM_cons]
    obtain ⟨t, ht⟩ := runM_pre F l (runS F o s)
    unfold runS at ht ⊢
    split at ht
    · exact ⟨_, by rw [ht, List.append_assoc]⟩
    · exact ⟨t, ht⟩

theorem IndexFunc_Mat_ac (l : List MatM) (v : AV) (g : FuncId) (caps : List AV) (p : MatM → Bool) (h : AH) (hR : RdG 4 enMat h v l) (hl : l.length ≤ 4611686018427387904)
    (hp : Pred Try.prog g caps vMat h p l) :
    AC Try.prog 56 [v, .f g caps] h (fun r h' => r = .i .i64 (idxFrom p l 0) ∧ h.le h') := by
  refine e56 _ _ fun wf => ?_
  unfold c56
  repeat (first | refine AI_seqk fun K hK => ?_ | refine AI_reg ?_ | ((first | refine wmv rfl ?_ | refine wag rfl ?_ | refine war _ rfl rfl rfl (by omega) (by omega) ?_ | refine wbn rfl rfl rfl ?_ | refine wnt rfl ?_ | refine wex rfl rfl ?_ | refine wpt rfl (by first | assumption | with_reducible rfl) rfl ?_ | refine wpf rfl (by first | assumption | with_reducible rfl) rfl ?_ | refine wpb rfl rfl rfl ?_ | refine wmf rfl ?_ | refine wnc rfl ?_ | refine wbq Try.underlying4 rfl rfl _ (.inr ⟨rfl, rfl⟩) ?_ | refine wbq Try.underlying4 rfl rfl _ (.inl ⟨rfl, rfl⟩) ?_); try dsimp only [st, List.set_cons_zero, List.set_cons_succ]) | ((first | refine AS_nil ?_ | refine AI_skip ?_ | refine AI_exit ?_); try simp only [AThen, ABlk, reduceIte, reduceCtorEq]) | ((first | refine hK _ _ ?_ | ((first | clear hK K | clear IH hK K); refine hK _ _ ?_) | ((first | clear hK K | clear IH hK K); (first | clear hK K | clear IH hK K); refine hK _ _ ?_) | ((first | clear hK K | clear IH hK K); (first | clear hK K | clear IH hK K); (first | clear hK K | clear IH hK K); refine hK _ _ ?_)); try (first | clear hK K | clear IH hK K)) | refine AI_cond_t rfl (by first | assumption | with_reducible rfl) ?_ | refine AI_cond_f rfl (by first | assumption | with_reducible rfl) ?_ | refine AS_gy rfl (by first | assumption | with_reducible rfl) ?_ | refine AS_gtn rfl (by first | assumption | with_reducible rfl) ?_ | refine AS_gfn rfl (by first | assumption | with_reducible rfl) ?_ | refine AI_block (AI_loop ?_) | refine AI_block ?_ | refine AI_ret ⟨_, rfl, ?_⟩)
  refine AS_op (OpR_lenA Try.underlying28 rfl hR.len ?_)
  try (dsimp only [st, setL, AV.cells, List.set_cons_zero, List.set_cons_succ, List.drop_zero, List.drop_succ_cons, List.take_zero, List.take_succ_cons, Nat.zero_add, Nat.add_zero, Nat.reduceAdd, List.cons_append, List.nil_append, List.eraseIdx_cons_zero, List.eraseIdx_cons_succ])
  repeat (first | refine AI_seqk fun K hK => ?_ | refine AI_reg ?_ | ((first | refine wmv rfl ?_ | refine wag rfl ?_ | refine war _ rfl rfl rfl (by omega) (by omega) ?_ | refine wbn rfl rfl rfl ?_ | refine wnt rfl ?_ | refine wex rfl rfl ?_ | refine wpt rfl (by first | assumption | with_reducible rfl) rfl ?_ | refine wpf rfl (by first | assumption | with_reducible rfl) rfl ?_ | refine wpb rfl rfl rfl ?_ | refine wmf rfl ?_ | refine wnc rfl ?_ | refine wbq Try.underlying4 rfl rfl _ (.inr ⟨rfl, rfl⟩) ?_ | refine wbq Try.underlying4 rfl rfl _ (.inl ⟨rfl, rfl⟩) ?_); try dsimp only [st, List.set_cons_zero, List.set_cons_succ]) | ((first | refine AS_nil ?_ | refine AI_skip ?_ | refine AI_exit ?_); try simp only [AThen, ABlk, reduceIte, reduceCtorEq]) | ((first | refine hK _ _ ?_ | ((first | clear hK K | clear IH hK K); refine hK _ _ ?_) | ((first | clear hK K | clear IH hK K); (first | clear hK K | clear IH hK K); refine hK _ _ ?_) | ((first | clear hK K | clear IH hK K); (first | clear hK K | clear IH hK K); (first | clear hK K | clear IH hK K); refine hK _ _ ?_)); try (first | clear hK K | clear IH hK K)) | refine AI_cond_t rfl (by first | assumption | with_reducible rfl) ?_ | refine AI_cond_f rfl (by first | assumption | with_reducible rfl) ?_ | refine AS_gy rfl (by first | assumption | with_reducible rfl) ?_ | refine AS_gtn rfl (by first | assumption | with_reducible rfl) ?_ | refine AS_gfn rfl (by first | assumption | with_reducible rfl) ?_ | refine AI_block (AI_loop ?_) | refine AI_block ?_ | refine AI_ret ⟨_, rfl, ?_⟩)
  refine AIL_ind (fun (n : Nat) a h' => ∃ (i : Int) (x5 : AV), (∃ r : Nat → AV, a = [v, .f g caps, un, un, .i .i64 0, x5, v, .i .i64 l.length, .i .i64 i, r 9, r 10, r 11, r 12, r 13, r 14, r 15, r 16, r 17, r 18]) ∧ 0 ≤ i ∧ i + n = l.length ∧ h.le h' ∧ idxFrom p l 0 = idxFrom p (l.drop i.toNat) i)
    ?_ l.length _ _ ⟨0, _, exJ rfl, by omega, by omega, .refl _, rfl⟩
  rintro n a h' ⟨i, x5, ⟨r, rfl⟩, h0, hn, hle, hidx⟩ IH
  repeat (first | refine AI_seqk fun K hK => ?_ | refine AI_reg ?_ | ((first | refine wmv rfl ?_ | refine wag rfl ?_ | refine war _ rfl rfl rfl (by omega) (by omega) ?_ | refine wbn rfl rfl rfl ?_ | refine wnt rfl ?_ | refine wex rfl rfl ?_ | refine wpt rfl (by first | assumption | with_reducible rfl) rfl ?_ | refine wpf rfl (by first | assumption | with_reducible rfl) rfl ?_ | refine wpb rfl rfl rfl ?_ | refine wmf rfl ?_ | refine wnc rfl ?_ | refine wbq Try.underlying4 rfl rfl _ (.inr ⟨rfl, rfl⟩) ?_ | refine wbq Try.underlying4 rfl rfl _ (.inl ⟨rfl, rfl⟩) ?_); try dsimp only [st, List.set_cons_zero, List.set_cons_succ]) | ((first | refine AS_nil ?_ | refine AI_skip ?_ | refine AI_exit ?_); try simp only [AThen, ABlk, reduceIte, reduceCtorEq]) | ((first | refine hK _ _ ?_ | ((first | clear hK K | clear IH hK K); refine hK _ _ ?_) | ((first | clear hK K | clear IH hK K); (first | clear hK K | clear IH hK K); refine hK _ _ ?_) | ((first | clear hK K | clear IH hK K); (first | clear hK K | clear IH hK K); (first | clear hK K | clear IH hK K); refine hK _ _ ?_)); try (first | clear hK K | clear IH hK K)) | refine AI_cond_t rfl (by first | assumption | with_reducible rfl) ?_ | refine AI_cond_f rfl (by first | assumption | with_reducible rfl) ?_ | refine AS_gy rfl (by first | assumption | with_reducible rfl) ?_ | refine AS_gtn rfl (by first | assumption | with_reducible rfl) ?_ | refine AS_gfn rfl (by first | assumption | with_reducible rfl) ?_ | refine AI_block (AI_loop ?_) | refine AI_block ?_ | refine AI_ret ⟨_, rfl, ?_⟩)
  (first | refine AS_gt rfl ?_ ?_ | refine AS_gf rfl ?_ ?_ | refine AI_cond rfl ?_ ?_) <;> intro hc <;> have hc' := hc <;> try simp only [decide_eq_true_eq, decide_eq_false_iff_not, Bool.not_eq_true', Bool.not_eq_false', Bool.not_eq_true, Bool.not_eq_false, beq_iff_eq, bne_iff_ne, beq_eq_false_iff_ne, bne_eq_false_iff_eq, Int.not_lt, Int.not_le, ge_iff_le, gt_iff_lt, not_and, ne_eq, Decidable.not_not] at hc'
  all_goals
    repeat (first | refine AI_seqk fun K hK => ?_ | refine AI_reg ?_ | ((first | refine wmv rfl ?_ | refine wag rfl ?_ | refine war _ rfl rfl rfl (by omega) (by omega) ?_ | refine wbn rfl rfl rfl ?_ | refine wnt rfl ?_ | refine wex rfl rfl ?_ | refine wpt rfl (by first | assumption | with_reducible rfl) rfl ?_ | refine wpf rfl (by first | assumption | with_reducible rfl) rfl ?_ | refine wpb rfl rfl rfl ?_ | refine wmf rfl ?_ | refine wnc rfl ?_ | refine wbq Try.underlying4 rfl rfl _ (.inr ⟨rfl, rfl⟩) ?_ | refine wbq Try.underlying4 rfl rfl _ (.inl ⟨rfl, rfl⟩) ?_); try dsimp only [st, List.set_cons_zero, List.set_cons_succ]) | ((first | refine AS_nil ?_ | refine AI_skip ?_ | refine AI_exit ?_); try simp only [AThen, ABlk, reduceIte, reduceCtorEq]) | ((first | refine hK _ _ ?_ | ((first | clear hK K | clear IH hK K); refine hK _ _ ?_) | ((first | clear hK K | clear IH hK K); (first | clear hK K | clear IH hK K); refine hK _ _ ?_) | ((first | clear hK K | clear IH hK K); (first | clear hK K | clear IH hK K); (first | clear hK K | clear IH hK K); refine hK _ _ ?_)); try (first | clear hK K | clear IH hK K)) | refine AI_cond_t rfl (by first | assumption | with_reducible rfl) ?_ | refine AI_cond_f rfl (by first | assumption | with_reducible rfl) ?_ | refine AS_gy rfl (by first | assumption | with_reducible rfl) ?_ | refine AS_gtn rfl (by first | assumption | with_reducible rfl) ?_ | refine AS_gfn rfl (by first | assumption | with_reducible rfl) ?_ | refine AI_block (AI_loop ?_) | refine AI_block ?_ | refine AI_ret ⟨_, rfl, ?_⟩)
  · obtain ⟨y, hy, hmem, hdrop⟩ := drop_at h0 hc'
    rw [hdrop] at hidx
    refine AS_op (OpR_idx Try.underlying28 sz37 rfl rfl (hR.le hle) (fun _ => rfl) h0 hy fun b o hrow => ?_)
    try (dsimp only [st, setL, AV.cells, List.set_cons_zero, List.set_cons_succ, List.drop_zero, List.drop_succ_cons, List.take_zero, List.take_succ_cons, Nat.zero_add, Nat.add_zero, Nat.reduceAdd, List.cons_append, List.nil_append, List.eraseIdx_cons_zero, List.eraseIdx_cons_succ])
    repeat (first | refine AI_seqk fun K hK => ?_ | refine AI_reg ?_ | ((first | refine wmv rfl ?_ | refine wag rfl ?_ | refine war _ rfl rfl rfl (by omega) (by omega) ?_ | refine wbn rfl rfl rfl ?_ | refine wnt rfl ?_ | refine wex rfl rfl ?_ | refine wpt rfl (by first | assumption | with_reducible rfl) rfl ?_ | refine wpf rfl (by first | assumption | with_reducible rfl) rfl ?_ | refine wpb rfl rfl rfl ?_ | refine wmf rfl ?_ | refine wnc rfl ?_ | refine wbq Try.underlying4 rfl rfl _ (.inr ⟨rfl, rfl⟩) ?_ | refine wbq Try.underlying4 rfl rfl _ (.inl ⟨rfl, rfl⟩) ?_); try dsimp only [st, List.set_cons_zero, List.set_cons_succ]) | ((first | refine AS_nil ?_ | refine AI_skip ?_ | refine AI_exit ?_); try simp only [AThen, ABlk, reduceIte, reduceCtorEq]) | ((first | refine hK _ _ ?_ | ((first | clear hK K | clear IH hK K); refine hK _ _ ?_) | ((first | clear hK K | clear IH hK K); (first | clear hK K | clear IH hK K); refine hK _ _ ?_) | ((first | clear hK K | clear IH hK K); (first | clear hK K | clear IH hK K); (first | clear hK K | clear IH hK K); refine hK _ _ ?_)); try (first | clear hK K | clear IH hK K)) | refine AI_cond_t rfl (by first | assumption | with_reducible rfl) ?_ | refine AI_cond_f rfl (by first | assumption | with_reducible rfl) ?_ | refine AS_gy rfl (by first | assumption | with_reducible rfl) ?_ | refine AS_gtn rfl (by first | assumption | with_reducible rfl) ?_ | refine AS_gfn rfl (by first | assumption | with_reducible rfl) ?_ | refine AI_block (AI_loop ?_) | refine AI_block ?_ | refine AI_ret ⟨_, rfl, ?_⟩)
    refine AS_op (OpR_load rfl (loadA_n ag37 sz37 hrow) ?_)
    try (dsimp only [st, setL, AV.cells, List.set_cons_zero, List.set_cons_succ, List.drop_zero, List.drop_succ_cons, List.take_zero, List.take_succ_cons, Nat.zero_add, Nat.add_zero, Nat.reduceAdd, List.cons_append, List.nil_append, List.eraseIdx_cons_zero, List.eraseIdx_cons_succ])
    repeat (first | refine AI_seqk fun K hK => ?_ | refine AI_reg ?_ | ((first | refine wmv rfl ?_ | refine wag rfl ?_ | refine war _ rfl rfl rfl (by omega) (by omega) ?_ | refine wbn rfl rfl rfl ?_ | refine wnt rfl ?_ | refine wex rfl rfl ?_ | refine wpt rfl (by first | assumption | with_reducible rfl) rfl ?_ | refine wpf rfl (by first | assumption | with_reducible rfl) rfl ?_ | refine wpb rfl rfl rfl ?_ | refine wmf rfl ?_ | refine wnc rfl ?_ | refine wbq Try.underlying4 rfl rfl _ (.inr ⟨rfl, rfl⟩) ?_ | refine wbq Try.underlying4 rfl rfl _ (.inl ⟨rfl, rfl⟩) ?_); try dsimp only [st, List.set_cons_zero, List.set_cons_succ]) | ((first | refine AS_nil ?_ | refine AI_skip ?_ | refine AI_exit ?_); try simp only [AThen, ABlk, reduceIte, reduceCtorEq]) | ((first | refine hK _ _ ?_ | ((first | clear hK K | clear IH hK K); refine hK _ _ ?_) | ((first | clear hK K | clear IH hK K); (first | clear hK K | clear IH hK K); refine hK _ _ ?_) | ((first | clear hK K | clear IH hK K); (first | clear hK K | clear IH hK K); (first | clear hK K | clear IH hK K); refine hK _ _ ?_)); try (first | clear hK K | clear IH hK K)) | refine AI_cond_t rfl (by first | assumption | with_reducible rfl) ?_ | refine AI_cond_f rfl (by first | assumption | with_reducible rfl) ?_ | refine AS_gy rfl (by first | assumption | with_reducible rfl) ?_ | refine AS_gtn rfl (by first | assumption | with_reducible rfl) ?_ | refine AS_gfn rfl (by first | assumption | with_reducible rfl) ?_ | refine AI_block (AI_loop ?_) | refine AI_block ?_ | refine AI_ret ⟨_, rfl, ?_⟩)
    refine AS_op (OpR_call rfl rfl (hp y hmem _ hle) ?_)
    rintro _ h2 wf1 ⟨rfl, hle2⟩
    try (dsimp only [st, setL, AV.cells, List.set_cons_zero, List.set_cons_succ, List.drop_zero, List.drop_succ_cons, List.take_zero, List.take_succ_cons, Nat.zero_add, Nat.add_zero, Nat.reduceAdd, List.cons_append, List.nil_append, List.eraseIdx_cons_zero, List.eraseIdx_cons_succ])
    repeat (first | refine AI_seqk fun K hK => ?_ | refine AI_reg ?_ | ((first | refine wmv rfl ?_ | refine wag rfl ?_ | refine war _ rfl rfl rfl (by omega) (by omega) ?_ | refine wbn rfl rfl rfl ?_ | refine wnt rfl ?_ | refine wex rfl rfl ?_ | refine wpt rfl (by first | assumption | with_reducible rfl) rfl ?_ | refine wpf rfl (by first | assumption | with_reducible rfl) rfl ?_ | refine wpb rfl rfl rfl ?_ | refine wmf rfl ?_ | refine wnc rfl ?_ | refine wbq Try.underlying4 rfl rfl _ (.inr ⟨rfl, rfl⟩) ?_ | refine wbq Try.underlying4 rfl rfl _ (.inl ⟨rfl, rfl⟩) ?_); try dsimp only [st, List.set_cons_zero, List.set_cons_succ]) | ((first | refine AS_nil ?_ | refine AI_skip ?_ | refine AI_exit ?_); try simp only [AThen, ABlk, reduceIte, reduceCtorEq]) | ((first | refine hK _ _ ?_ | ((first | clear hK K | clear IH hK K); refine hK _ _ ?_) | ((first | clear hK K | clear IH hK K); (first | clear hK K | clear IH hK K); refine hK _ _ ?_) | ((first | clear hK K | clear IH hK K); (first | clear hK K | clear IH hK K); (first | clear hK K | clear IH hK K); refine hK _ _ ?_)); try (first | clear hK K | clear IH hK K)) | refine AI_cond_t rfl (by first | assumption | with_reducible rfl) ?_ | refine AI_cond_f rfl (by first | assumption | with_reducible rfl) ?_ | refine AS_gy rfl (by first | assumption | with_reducible rfl) ?_ | refine AS_gtn rfl (by first | assumption | with_reducible rfl) ?_ | refine AS_gfn rfl (by first | assumption | with_reducible rfl) ?_ | refine AI_block (AI_loop ?_) | refine AI_block ?_ | refine AI_ret ⟨_, rfl, ?_⟩)
    (first | refine AS_gt rfl ?_ ?_ | refine AS_gf rfl ?_ ?_ | refine AI_cond rfl ?_ ?_) <;> intro hc <;> have hc' := hc <;> try simp only [decide_eq_true_eq, decide_eq_false_iff_not, Bool.not_eq_true', Bool.not_eq_false', Bool.not_eq_true, Bool.not_eq_false, beq_iff_eq, bne_iff_ne, beq_eq_false_iff_ne, bne_eq_false_iff_eq, Int.not_lt, Int.not_le, ge_iff_le, gt_iff_lt, not_and, ne_eq, Decidable.not_not] at hc'
    all_goals
      repeat (first | refine AI_seqk fun K hK => ?_ | refine AI_reg ?_ | ((first | refine wmv rfl ?_ | refine wag rfl ?_ | refine war _ rfl rfl rfl (by omega) (by omega) ?_ | refine wbn rfl rfl rfl ?_ | refine wnt rfl ?_ | refine wex rfl rfl ?_ | refine wpt rfl (by first | assumption | with_reducible rfl) rfl ?_ | refine wpf rfl (by first | assumption | with_reducible rfl) rfl ?_ | refine wpb rfl rfl rfl ?_ | refine wmf rfl ?_ | refine wnc rfl ?_ | refine wbq Try.underlying4 rfl rfl _ (.inr ⟨rfl, rfl⟩) ?_ | refine wbq Try.underlying4 rfl rfl _ (.inl ⟨rfl, rfl⟩) ?_); try dsimp only [st, List.set_cons_zero, List.set_cons_succ]) | ((first | refine AS_nil ?_ | refine AI_skip ?_ | refine AI_exit ?_); try simp only [AThen, ABlk, reduceIte, reduceCtorEq]) | ((first | refine hK _ _ ?_ | ((first | clear hK K | clear IH hK K); refine hK _ _ ?_) | ((first | clear hK K | clear IH hK K); (first | clear hK K | clear IH hK K); refine hK _ _ ?_) | ((first | clear hK K | clear IH hK K); (first | clear hK K | clear IH hK K); (first | clear hK K | clear IH hK K); refine hK _ _ ?_)); try (first | clear hK K | clear IH hK K)) | refine AI_cond_t rfl (by first | assumption | with_reducible rfl) ?_ | refine AI_cond_f rfl (by first | assumption | with_reducible rfl) ?_ | refine AS_gy rfl (by first | assumption | with_reducible rfl) ?_ | refine AS_gtn rfl (by first | assumption | with_reducible rfl) ?_ | refine AS_gfn rfl (by first | assumption | with_reducible rfl) ?_ | refine AI_block (AI_loop ?_) | refine AI_block ?_ | refine AI_ret ⟨_, rfl, ?_⟩)
    · refine ⟨?_, hle.trans hle2⟩
      rw [hidx]
      simp [idxFrom, hc, oneA]
    · refine IH (n - 1) _ _ (by omega) ⟨i + 1, _, exJ rfl, by omega, by omega, hle.trans hle2, ?_⟩
      rw [hidx, toNat_succ h0]
      simp [idxFrom, hc]
  · refine ⟨?_, hle⟩
    rw [hidx, List.drop_eq_nil_of_le (by omega)]
    rfl

theorem ContainsFunc_Mat_ac (l : List MatM) (v : AV) (g : FuncId) (caps : List AV) (p : MatM → Bool) (h : AH) (hR : RdG 4 enMat h v l) (hl : l.length ≤ 4611686018427387904)
    (hp : Pred Try.prog g caps vMat h p l) :
    AC Try.prog 24 [v, .f g caps] h (fun r h' => r = .b (l.any p) ∧ h.le h') := by
  refine e24 _ _ fun wf => ?_
  unfold c24
  repeat (first | refine AI_seqk fun K hK => ?_ | refine AI_reg ?_ | ((first | refine wmv rfl ?_ | refine wag rfl ?_ | refine war _ rfl rfl rfl (by omega) (by omega) ?_ | refine wbn rfl rfl rfl ?_ | refine wnt rfl ?_ | refine wex rfl rfl ?_ | refine wpt rfl (by first | assumption | with_reducible rfl) rfl ?_ | refine wpf rfl (by first | assumption | with_reducible rfl) rfl ?_ | refine wpb rfl rfl rfl ?_ | refine wmf rfl ?_ | refine wnc rfl ?_ | refine wbq Try.underlying4 rfl rfl _ (.inr ⟨rfl, rfl⟩) ?_ | refine wbq Try.underlying4 rfl rfl _ (.inl ⟨rfl, rfl⟩) ?_); try dsimp only [st, List.set_cons_zero, List.set_cons_succ]) | ((first | refine AS_nil ?_ | refine AI_skip ?_ | refine AI_exit ?_); try simp only [AThen, ABlk, reduceIte, reduceCtorEq]) | ((first | refine hK _ _ ?_ | ((first | clear hK K | clear IH hK K); refine hK _ _ ?_) | ((first | clear hK K | clear IH hK K); (first | clear hK K | clear IH hK K); refine hK _ _ ?_) | ((first | clear hK K | clear IH hK K); (first | clear hK K | clear IH hK K); (first | clear hK K | clear IH hK K); refine hK _ _ ?_)); try (first | clear hK K | clear IH hK K)) | refine AI_cond_t rfl (by first | assumption | with_reducible rfl) ?_ | refine AI_cond_f rfl (by first | assumption | with_reducible rfl) ?_ | refine AS_gy rfl (by first | assumption | with_reducible rfl) ?_ | refine AS_gtn rfl (by first | assumption | with_reducible rfl) ?_ | refine AS_gfn rfl (by first | assumption | with_reducible rfl) ?_ | refine AI_block (AI_loop ?_) | refine AI_block ?_ | refine AI_ret ⟨_, rfl, ?_⟩)
  refine AS_op (OpR_call rfl rfl (IndexFunc_Mat_ac l v g caps p _ hR hl hp) ?_)
  rintro _ h2 wf1 ⟨rfl, hle2⟩
  try (dsimp only [st, setL, AV.cells, List.set_cons_zero, List.set_cons_succ, List.drop_zero, List.drop_succ_cons, List.take_zero, List.take_succ_cons, Nat.zero_add, Nat.add_zero, Nat.reduceAdd, List.cons_append, List.nil_append, List.eraseIdx_cons_zero, List.eraseIdx_cons_succ])
  repeat (first | refine AI_seqk fun K hK => ?_ | refine AI_reg ?_ | ((first | refine wmv rfl ?_ | refine wag rfl ?_ | refine war _ rfl rfl rfl (by omega) (by omega) ?_ | refine wbn rfl rfl rfl ?_ | refine wnt rfl ?_ | refine wex rfl rfl ?_ | refine wpt rfl (by first | assumption | with_reducible rfl) rfl ?_ | refine wpf rfl (by first | assumption | with_reducible rfl) rfl ?_ | refine wpb rfl rfl rfl ?_ | refine wmf rfl ?_ | refine wnc rfl ?_ | refine wbq Try.underlying4 rfl rfl _ (.inr ⟨rfl, rfl⟩) ?_ | refine wbq Try.underlying4 rfl rfl _ (.inl ⟨rfl, rfl⟩) ?_); try dsimp only [st, List.set_cons_zero, List.set_cons_succ]) | ((first | refine AS_nil ?_ | refine AI_skip ?_ | refine AI_exit ?_); try simp only [AThen, ABlk, reduceIte, reduceCtorEq]) | ((first | refine hK _ _ ?_ | ((first | clear hK K | clear IH hK K); refine hK _ _ ?_) | ((first | clear hK K | clear IH hK K); (first | clear hK K | clear IH hK K); refine hK _ _ ?_) | ((first | clear hK K | clear IH hK K); (first | clear hK K | clear IH hK K); (first | clear hK K | clear IH hK K); refine hK _ _ ?_)); try (first | clear hK K | clear IH hK K)) | refine AI_cond_t rfl (by first | assumption | with_reducible rfl) ?_ | refine AI_cond_f rfl (by first | assumption | with_reducible rfl) ?_ | refine AS_gy rfl (by first | assumption | with_reducible rfl) ?_ | refine AS_gtn rfl (by first | assumption | with_reducible rfl) ?_ | refine AS_gfn rfl (by first | assumption | with_reducible rfl) ?_ | refine AI_block (AI_loop ?_) | refine AI_block ?_ | refine AI_ret ⟨_, rfl, ?_⟩)
  refine ⟨?_, hle2⟩
  simp only [oneA, ← idxFrom_any p l 0 (by omega), ge_iff_le]

/-! ### Plans run on matrices -/
def rmOk (p : PlanM) (m : Int) (l : List MatM) : Bool := planOk p && (decide (2 ≤ m ∧ m ≤ 10000) && (decide ((l.length : Int) = p.n) && l.all (matOk m)))

def rmR (p : PlanM) (m : Int) (l : List MatM) : List MatM := if rmOk p m l = true then pickM (runM (matMul m) p.steps l) p.outs else []

def TupQ (l : List MatM) (ok : Bool) (r : AV) (M : List It) : Prop := ∃ w, r = .tup [w, .b ok] ∧ lenA w = some l.length ∧ w.sc = true ∧ M = [.sl w 4 (l.flatMap enMat)]

theorem TupQ.of {l : List MatM} {ok : Bool} {h0 h : AH} {w : AV} (H : Own h0 4 enMat h w l) : ∃ M, TupQ l ok (.tup [w, .b ok]) M ∧ Loq h0 h M := ⟨_, ⟨w, rfl, H.rd.len, rd_sc H.rd, rfl⟩, H.loc enMat4⟩

theorem TupQ.none {h0 h : AH} {L : List It} (H : Loq h0 h L) : ∃ M, TupQ [] false (.tup [.ns, .b false]) M ∧ Loq h0 h M := ⟨_, ⟨.ns, rfl, rfl, rfl, rfl⟩, loq_ns (H.sub (List.nil_sublist _)) 4⟩

theorem RunMatrices_1_ac (a : MatM) (m : Int) (b : Nat) (h : AH) (hb : h.cell b 0 = some (.i .i64 m)) :
    AC Try.prog 25 [.agg (enMat a), .p b 0] h (fun r h' => r = .b (!resOk m [a.a, a.b, a.c, a.d]) ∧ h.le h') := by
  refine e25 _ _ fun wf => ?_
  unfold c25
  refine LI_start wf ?_
  refine W ?_
  refine LS_bxn rfl rfl fun b1 => ?_
  try (dsimp only [st, setL, AV.cells, List.set_cons_zero, List.set_cons_succ, List.drop_zero, List.drop_succ_cons, List.take_zero, List.take_succ_cons, Nat.zero_add, Nat.add_zero, Nat.reduceAdd, List.cons_append, List.nil_append, List.eraseIdx_cons_zero, List.eraseIdx_cons_succ])
  refine W ?_
  refine dz25_0 ?_
  refine WX ?_
  refine W ?_
  refine LX_co (fun h' HL wf => residues_ac a h'.frz) enI1 rfl rfl noG fun w1 hw1 sw1 => ?_
  try (dsimp only [st, setL, AV.cells, List.set_cons_zero, List.set_cons_succ, List.drop_zero, List.drop_succ_cons, List.take_zero, List.take_succ_cons, Nat.zero_add, Nat.add_zero, Nat.reduceAdd, List.cons_append, List.nil_append, List.eraseIdx_cons_zero, List.eraseIdx_cons_succ])
  refine WX ?_
  refine W ?_
  refine LX_c0 (fun h' HL wf => residuesOk_ac _ w1 m h'.frz (HL.rdI 0 rfl enI1 (by decide)).frz (by simp)) rfl rfl noG ?_
  try (dsimp only [st, setL, AV.cells, List.set_cons_zero, List.set_cons_succ, List.drop_zero, List.drop_succ_cons, List.take_zero, List.take_succ_cons, Nat.zero_add, Nat.add_zero, Nat.reduceAdd, List.cons_append, List.nil_append, List.eraseIdx_cons_zero, List.eraseIdx_cons_succ])
  refine WX ?_
  refine W ?_
  refine RET fun h' HL => ?_
  try dsimp only [oneA]
  exact ⟨rfl, HL.le⟩

theorem any_res {m : Int} {l : List MatM} (hm : decide (2 ≤ m ∧ m ≤ 10000) = true) : (l.any fun a => !resOk m [a.a, a.b, a.c, a.d]) = !(l.all (matOk m)) := by
  rw [List.all_eq_not_any_not, Bool.not_not]
  congr 1
  funext a
  rw [resOk, hm, Bool.true_and]
  rfl

theorem implRM_ac (p : PlanM) (m : Int) (l : List MatM) (v w : AV) (h : AH) (hR : PlR h v p) (hw : PSm p) (hl : RdG 4 enMat h w l) (hll : l.length ≤ 1048576) :
    AC Try.prog 7 [v, .i .i64 m, w] h (fun r h' => ∃ M, TupQ (rmR p m l) (rmOk p m l) r M ∧ Loq h h' M) := by
  have hR0 := hR
  have hlw := hl.len
  obtain ⟨vs, vo, rfl, hs, ho⟩ := hR
  refine e7 _ _ _ fun wf => ?_
  unfold c7
  refine LI_start wf ?_
  refine W ?_
  refine LS_bxn rfl (sc_cons rfl (sc_cons (rd_sc hs) (sc_cons (rd_sc ho) rfl))) fun b1 => ?_
  try (dsimp only [st, setL, AV.cells, List.set_cons_zero, List.set_cons_succ, List.drop_zero, List.drop_succ_cons, List.take_zero, List.take_succ_cons, Nat.zero_add, Nat.add_zero, Nat.reduceAdd, List.cons_append, List.nil_append, List.eraseIdx_cons_zero, List.eraseIdx_cons_succ])
  refine W ?_
  refine LS_bx1 rfl rfl fun b2 => ?_
  try (dsimp only [st, setL, AV.cells, List.set_cons_zero, List.set_cons_succ, List.drop_zero, List.drop_succ_cons, List.take_zero, List.take_succ_cons, Nat.zero_add, Nat.add_zero, Nat.reduceAdd, List.cons_append, List.nil_append, List.eraseIdx_cons_zero, List.eraseIdx_cons_succ])
  refine W ?_
  refine LS_c0 (fun h' HL wf => ContainsFunc_Mat_ac l w _ _ (fun a => !resOk m [a.a, a.b, a.c, a.d]) h' (hl.le HL.le) (by omega) (fun x _ h2 hle => RunMatrices_1_ac x m b2 h2 (hle.cell (HL.cellP 0 rfl rfl)))) rfl rfl ?_
  try (dsimp only [st, setL, AV.cells, List.set_cons_zero, List.set_cons_succ, List.drop_zero, List.drop_succ_cons, List.take_zero, List.take_succ_cons, Nat.zero_add, Nat.add_zero, Nat.reduceAdd, List.cons_append, List.nil_append, List.eraseIdx_cons_zero, List.eraseIdx_cons_succ])
  refine W ?_
  refine LS_c0 (fun h' HL wf => isPlan_ac p _ h' (hR0.le HL.le) hw) rfl rfl ?_
  try (dsimp only [st, setL, AV.cells, List.set_cons_zero, List.set_cons_succ, List.drop_zero, List.drop_succ_cons, List.take_zero, List.take_succ_cons, Nat.zero_add, Nat.add_zero, Nat.reduceAdd, List.cons_append, List.nil_append, List.eraseIdx_cons_zero, List.eraseIdx_cons_succ])
  refine W ?_
  (first | refine LS_gt rfl ?_ ?_ | refine LS_gf rfl ?_ ?_ | refine LI_cond rfl ?_ ?_) <;> intro hc <;> have hc' := hc <;> try simp only [decide_eq_true_eq, decide_eq_false_iff_not, Bool.not_eq_true', Bool.not_eq_false', Bool.not_eq_true, Bool.not_eq_false, beq_iff_eq, bne_iff_ne, beq_eq_false_iff_ne, bne_eq_false_iff_eq, Int.not_lt, Int.not_le, ge_iff_le, gt_iff_lt, not_and, ne_eq, Decidable.not_not] at hc'
  all_goals (try (dsimp only [st, setL, AV.cells, List.set_cons_zero, List.set_cons_succ, List.drop_zero, List.drop_succ_cons, List.take_zero, List.take_succ_cons, Nat.zero_add, Nat.add_zero, Nat.reduceAdd, List.cons_append, List.nil_append, List.eraseIdx_cons_zero, List.eraseIdx_cons_succ]))
  all_goals (refine W ?_)
  · have hk := nf hc
    refine LS_c0' (fun h' HL wf => modulusOk_ac m h') rfl rfl ?_
    try (dsimp only [st, setL, AV.cells, List.set_cons_zero, List.set_cons_succ, List.drop_zero, List.drop_succ_cons, List.take_zero, List.take_succ_cons, Nat.zero_add, Nat.add_zero, Nat.reduceAdd, List.cons_append, List.nil_append, List.eraseIdx_cons_zero, List.eraseIdx_cons_succ])
    refine W ?_
    (first | refine LS_gt rfl ?_ ?_ | refine LS_gf rfl ?_ ?_ | refine LI_cond rfl ?_ ?_) <;> intro hc <;> have hc' := hc <;> try simp only [decide_eq_true_eq, decide_eq_false_iff_not, Bool.not_eq_true', Bool.not_eq_false', Bool.not_eq_true, Bool.not_eq_false, beq_iff_eq, bne_iff_ne, beq_eq_false_iff_ne, bne_eq_false_iff_eq, Int.not_lt, Int.not_le, ge_iff_le, gt_iff_lt, not_and, ne_eq, Decidable.not_not] at hc'
    all_goals (try (dsimp only [st, setL, AV.cells, List.set_cons_zero, List.set_cons_succ, List.drop_zero, List.drop_succ_cons, List.take_zero, List.take_succ_cons, Nat.zero_add, Nat.add_zero, Nat.reduceAdd, List.cons_append, List.nil_append, List.eraseIdx_cons_zero, List.eraseIdx_cons_succ]))
    all_goals (refine W ?_)
    · have hm := nf hc
      have hmb := of_decide_eq_true hm
      rw [any_res hm]
      (first | refine LS_gt rfl ?_ ?_ | refine LS_gf rfl ?_ ?_ | refine LI_cond rfl ?_ ?_) <;> intro hc <;> have hc' := hc <;> try simp only [decide_eq_true_eq, decide_eq_false_iff_not, Bool.not_eq_true', Bool.not_eq_false', Bool.not_eq_true, Bool.not_eq_false, beq_iff_eq, bne_iff_ne, beq_eq_false_iff_ne, bne_eq_false_iff_eq, Int.not_lt, Int.not_le, ge_iff_le, gt_iff_lt, not_and, ne_eq, Decidable.not_not] at hc'
      all_goals (try (dsimp only [st, setL, AV.cells, List.set_cons_zero, List.set_cons_succ, List.drop_zero, List.drop_succ_cons, List.take_zero, List.take_succ_cons, Nat.zero_add, Nat.add_zero, Nat.reduceAdd, List.cons_append, List.nil_append, List.eraseIdx_cons_zero, List.eraseIdx_cons_succ]))
      all_goals (refine W ?_)
      · have hln : decide ((l.length : Int) = p.n) = true := by simpa using hc
        refine W ?_
        (first | refine LS_gt rfl ?_ ?_ | refine LS_gf rfl ?_ ?_ | refine LI_cond rfl ?_ ?_) <;> intro hc <;> have hc' := hc <;> try simp only [decide_eq_true_eq, decide_eq_false_iff_not, Bool.not_eq_true', Bool.not_eq_false', Bool.not_eq_true, Bool.not_eq_false, beq_iff_eq, bne_iff_ne, beq_eq_false_iff_ne, bne_eq_false_iff_eq, Int.not_lt, Int.not_le, ge_iff_le, gt_iff_lt, not_and, ne_eq, Decidable.not_not] at hc'
        all_goals (try (dsimp only [st, setL, AV.cells, List.set_cons_zero, List.set_cons_succ, List.drop_zero, List.drop_succ_cons, List.take_zero, List.take_succ_cons, Nat.zero_add, Nat.add_zero, Nat.reduceAdd, List.cons_append, List.nil_append, List.eraseIdx_cons_zero, List.eraseIdx_cons_succ]))
        all_goals (refine W ?_)
        · have hx : rmOk p m l = false := by rw [rmOk, nt hc]; simp
          rw [rmR, hx, if_neg (by simp)]
          refine RET fun h' HL => ?_
          try dsimp only [oneA]
          exact TupQ.none HL
        · have hall := nf hc
          have hx : rmOk p m l = true := by rw [rmOk, hk, hm, hln, hall]; rfl
          rw [rmR, hx, if_pos rfl]
          have hln' := of_decide_eq_true hln
          have hall' := List.all_eq_true.1 hall
          refine LS_c1 (fun h' HL wf => matrixTimes_ac m h') rfl rfl ?_
          try (dsimp only [st, setL, AV.cells, List.set_cons_zero, List.set_cons_succ, List.drop_zero, List.drop_succ_cons, List.take_zero, List.take_succ_cons, Nat.zero_add, Nat.add_zero, Nat.reduceAdd, List.cons_append, List.nil_append, List.eraseIdx_cons_zero, List.eraseIdx_cons_succ])
          refine W ?_
          rintro _ _ ⟨b3, rfl, rfl⟩
          try (dsimp only [st, setL, AV.cells, List.set_cons_zero, List.set_cons_succ, List.drop_zero, List.drop_succ_cons, List.take_zero, List.take_succ_cons, Nat.zero_add, Nat.add_zero, Nat.reduceAdd, List.cons_append, List.nil_append, List.eraseIdx_cons_zero, List.eraseIdx_cons_succ])
          refine W ?_
          refine LS_co (fun h' HL wf => run_Mat_ac (matMul m) (fun a => matOk m a = true) (fun h => h.cell b3 0 = some (.i .i64 m)) (Kept.cell b3 0 _) _ _ p l b1 vs vo w h' (HL.cellP 0 rfl rfl) ⟨HL.rowsP 2 rfl (Nat.le_refl 3) rfl, hs.le HL.le, ho.le HL.le⟩ (hl.le HL.le) hk hln' hall' (fun x y hx hy => matMul_ok hmb.1 hx hy) (fun h2 x y hC hx1 hy1 => matrixTimes_1_ac x y m b3 h2 hC hmb.1 hmb.2 hx1 hy1)) enMat4 rfl rfl fun w3 hw3 sw3 => ?_
          try (dsimp only [st, setL, AV.cells, List.set_cons_zero, List.set_cons_succ, List.drop_zero, List.drop_succ_cons, List.take_zero, List.take_succ_cons, Nat.zero_add, Nat.add_zero, Nat.reduceAdd, List.cons_append, List.nil_append, List.eraseIdx_cons_zero, List.eraseIdx_cons_succ])
          refine W ?_
          refine LS_co (fun h' HL wf => outputsOf_Mat_ac p _ b1 vs vo w3 h' ⟨HL.rowsP 3 rfl (Nat.le_refl 3) rfl, hs.le HL.le, ho.le HL.le⟩ (HL.rdI 0 rfl enMat4 (by decide)) hw.lo (outs_in hk hln')) enMat4 rfl rfl fun w4 hw4 sw4 => ?_
          try (dsimp only [st, setL, AV.cells, List.set_cons_zero, List.set_cons_succ, List.drop_zero, List.drop_succ_cons, List.take_zero, List.take_succ_cons, Nat.zero_add, Nat.add_zero, Nat.reduceAdd, List.cons_append, List.nil_append, List.eraseIdx_cons_zero, List.eraseIdx_cons_succ])
          refine W ?_
          refine RET fun h' HL => ?_
          try dsimp only [oneA]
          exact TupQ.of (HL.ownI 0 rfl enMat4 (by decide))
      · have hln : decide ((l.length : Int) = p.n) = false := by simpa using hc
        have hx : rmOk p m l = false := by rw [rmOk, hln]; simp
        rw [rmR, hx, if_neg (by simp)]
        refine RET fun h' HL => ?_
        try dsimp only [oneA]
        exact TupQ.none HL
    · have hm := nt hc
      have hx : rmOk p m l = false := by rw [rmOk, hm]; simp
      rw [rmR, hx, if_neg (by simp)]
      refine RET fun h' HL => ?_
      try dsimp only [oneA]
      exact TupQ.none HL
  · have hx : rmOk p m l = false := by rw [rmOk, nt hc, Bool.false_and]
    rw [rmR, hx, if_neg (by simp)]
    refine RET fun h' HL => ?_
    try dsimp only [oneA]
    exact TupQ.none HL

theorem specRM_ac (p : PlanM) (m : Int) (l : List MatM) (v w : AV) (h : AH) (hR : PlR h v p) (hw : PSm p) (hl : RdG 4 enMat h w l) (hll : l.length ≤ 1048576) :
    AC Try.prog 8 [v, .i .i64 m, w] h (fun r h' => ∃ M, TupQ (rmR p m l) (rmOk p m l) r M ∧ Loq h h' M) := by
  have hR0 := hR
  have hlw := hl.len
  obtain ⟨vs, vo, rfl, hs, ho⟩ := hR
  refine e8 _ _ _ fun wf => ?_
  unfold c8
  refine LI_start wf ?_
  refine W ?_
  refine LS_bxn rfl (sc_cons rfl (sc_cons (rd_sc hs) (sc_cons (rd_sc ho) rfl))) fun b1 => ?_
  try (dsimp only [st, setL, AV.cells, List.set_cons_zero, List.set_cons_succ, List.drop_zero, List.drop_succ_cons, List.take_zero, List.take_succ_cons, Nat.zero_add, Nat.add_zero, Nat.reduceAdd, List.cons_append, List.nil_append, List.eraseIdx_cons_zero, List.eraseIdx_cons_succ])
  refine W ?_
  refine LS_c0 (fun h' HL wf => good_ac p _ h' (hR0.le HL.le) hw) rfl rfl ?_
  try (dsimp only [st, setL, AV.cells, List.set_cons_zero, List.set_cons_succ, List.drop_zero, List.drop_succ_cons, List.take_zero, List.take_succ_cons, Nat.zero_add, Nat.add_zero, Nat.reduceAdd, List.cons_append, List.nil_append, List.eraseIdx_cons_zero, List.eraseIdx_cons_succ])
  refine W ?_
  (first | refine LS_gt rfl ?_ ?_ | refine LS_gf rfl ?_ ?_ | refine LI_cond rfl ?_ ?_) <;> intro hc <;> have hc' := hc <;> try simp only [decide_eq_true_eq, decide_eq_false_iff_not, Bool.not_eq_true', Bool.not_eq_false', Bool.not_eq_true, Bool.not_eq_false, beq_iff_eq, bne_iff_ne, beq_eq_false_iff_ne, bne_eq_false_iff_eq, Int.not_lt, Int.not_le, ge_iff_le, gt_iff_lt, not_and, ne_eq, Decidable.not_not] at hc'
  all_goals (try (dsimp only [st, setL, AV.cells, List.set_cons_zero, List.set_cons_succ, List.drop_zero, List.drop_succ_cons, List.take_zero, List.take_succ_cons, Nat.zero_add, Nat.add_zero, Nat.reduceAdd, List.cons_append, List.nil_append, List.eraseIdx_cons_zero, List.eraseIdx_cons_succ]))
  all_goals (refine W ?_)
  · have hk := nf hc
    obtain ⟨h1, h2, h3, h4, hf, h6⟩ := planOk_out hk
    refine LS_c0' (fun h' HL wf => moModulus_ac m h') rfl rfl ?_
    try (dsimp only [st, setL, AV.cells, List.set_cons_zero, List.set_cons_succ, List.drop_zero, List.drop_succ_cons, List.take_zero, List.take_succ_cons, Nat.zero_add, Nat.add_zero, Nat.reduceAdd, List.cons_append, List.nil_append, List.eraseIdx_cons_zero, List.eraseIdx_cons_succ])
    refine W ?_
    (first | refine LS_gt rfl ?_ ?_ | refine LS_gf rfl ?_ ?_ | refine LI_cond rfl ?_ ?_) <;> intro hc <;> have hc' := hc <;> try simp only [decide_eq_true_eq, decide_eq_false_iff_not, Bool.not_eq_true', Bool.not_eq_false', Bool.not_eq_true, Bool.not_eq_false, beq_iff_eq, bne_iff_ne, beq_eq_false_iff_ne, bne_eq_false_iff_eq, Int.not_lt, Int.not_le, ge_iff_le, gt_iff_lt, not_and, ne_eq, Decidable.not_not] at hc'
    all_goals (try (dsimp only [st, setL, AV.cells, List.set_cons_zero, List.set_cons_succ, List.drop_zero, List.drop_succ_cons, List.take_zero, List.take_succ_cons, Nat.zero_add, Nat.add_zero, Nat.reduceAdd, List.cons_append, List.nil_append, List.eraseIdx_cons_zero, List.eraseIdx_cons_succ]))
    all_goals (refine W ?_)
    · have hm := nf hc
      have hmb := of_decide_eq_true hm
      (first | refine LS_gt rfl ?_ ?_ | refine LS_gf rfl ?_ ?_ | refine LI_cond rfl ?_ ?_) <;> intro hc <;> have hc' := hc <;> try simp only [decide_eq_true_eq, decide_eq_false_iff_not, Bool.not_eq_true', Bool.not_eq_false', Bool.not_eq_true, Bool.not_eq_false, beq_iff_eq, bne_iff_ne, beq_eq_false_iff_ne, bne_eq_false_iff_eq, Int.not_lt, Int.not_le, ge_iff_le, gt_iff_lt, not_and, ne_eq, Decidable.not_not] at hc'
      all_goals (try (dsimp only [st, setL, AV.cells, List.set_cons_zero, List.set_cons_succ, List.drop_zero, List.drop_succ_cons, List.take_zero, List.take_succ_cons, Nat.zero_add, Nat.add_zero, Nat.reduceAdd, List.cons_append, List.nil_append, List.eraseIdx_cons_zero, List.eraseIdx_cons_succ]))
      all_goals (refine W ?_)
      · have hln : decide ((l.length : Int) = p.n) = false := by simpa using hc
        have hx : rmOk p m l = false := by rw [rmOk, hln]; simp
        rw [rmR, hx, if_neg (by simp)]
        refine RET fun h' HL => ?_
        try dsimp only [oneA]
        exact TupQ.none HL
      · have hln : decide ((l.length : Int) = p.n) = true := by simpa using hc
        have hln' := of_decide_eq_true hln
        refine W ?_
        refine LIL_ind (fun n a L => ∃ (i : Int), (∃ r : Nat → AV, a = [r 0, .i .i64 m, w, .p b1 0, r 4, r 5, r 6, r 7, r 8, r 9, r 10, r 11, r 12, r 13, r 14, r 15, r 16, r 17, r 18, r 19, r 20, r 21, r 22, r 23, r 24, r 25, r 26, r 27, r 28, r 29, r 30, w, .i .i64 l.length, .i .i64 i, r 34, r 35, r 36, r 37, r 38, r 39, r 40, r 41, r 42, r 43, r 44, r 45, r 46, r 47, r 48, r 49, r 50, r 51, r 52, r 53, r 54, r 55, r 56, r 57, r 58, r 59, r 60, r 61, r 62, r 63, r 64, r 65, r 66, r 67, r 68, r 69, r 70, r 71, r 72, r 73, r 74, r 75, r 76, r 77, r 78, r 79, r 80, r 81, r 82, r 83]) ∧ L = [.pt b1 [.i .i64 p.n, vs, vo]] ∧ 0 ≤ i ∧ i + n = l.length ∧ l.all (matOk m) = (l.drop i.toNat).all (matOk m))
          l.length ⟨0, exJ rfl, rfl, by omega, by omega, rfl⟩ ?_
        rintro n a L ⟨i, ⟨r, rfl⟩, rfl, h0, hn, heq⟩ IH
        refine W ?_
        (first | refine LS_gt rfl ?_ ?_ | refine LS_gf rfl ?_ ?_ | refine LI_cond rfl ?_ ?_) <;> intro hc <;> have hc' := hc <;> try simp only [decide_eq_true_eq, decide_eq_false_iff_not, Bool.not_eq_true', Bool.not_eq_false', Bool.not_eq_true, Bool.not_eq_false, beq_iff_eq, bne_iff_ne, beq_eq_false_iff_ne, bne_eq_false_iff_eq, Int.not_lt, Int.not_le, ge_iff_le, gt_iff_lt, not_and, ne_eq, Decidable.not_not] at hc'
        all_goals (try (dsimp only [st, setL, AV.cells, List.set_cons_zero, List.set_cons_succ, List.drop_zero, List.drop_succ_cons, List.take_zero, List.take_succ_cons, Nat.zero_add, Nat.add_zero, Nat.reduceAdd, List.cons_append, List.nil_append, List.eraseIdx_cons_zero, List.eraseIdx_cons_succ]))
        all_goals (refine W ?_)
        · obtain ⟨y, hy, _, hd⟩ := drop_at (l := l) h0 hc'
          rw [hd, List.all_cons] at heq
          refine LS_ix (fun h' HL => hl.le HL.le) enMat4 hy h0 rfl rfl fun q1 o1 hrow1 => ?_
          try (dsimp only [st, setL, AV.cells, List.set_cons_zero, List.set_cons_succ, List.drop_zero, List.drop_succ_cons, List.take_zero, List.take_succ_cons, Nat.zero_add, Nat.add_zero, Nat.reduceAdd, List.cons_append, List.nil_append, List.eraseIdx_cons_zero, List.eraseIdx_cons_succ])
          refine W ?_
          refine LS_al rfl fun b3 => ?_
          try (dsimp only [st, setL, AV.cells, List.set_cons_zero, List.set_cons_succ, List.drop_zero, List.drop_succ_cons, List.take_zero, List.take_succ_cons, Nat.zero_add, Nat.add_zero, Nat.reduceAdd, List.cons_append, List.nil_append, List.eraseIdx_cons_zero, List.eraseIdx_cons_succ])
          refine W ?_
          refine LS_c0 (fun h' HL wf => moMatrix_ac y m h' hmb.1 hmb.2) rfl rfl ?_
          try (dsimp only [st, setL, AV.cells, List.set_cons_zero, List.set_cons_succ, List.drop_zero, List.drop_succ_cons, List.take_zero, List.take_succ_cons, Nat.zero_add, Nat.add_zero, Nat.reduceAdd, List.cons_append, List.nil_append, List.eraseIdx_cons_zero, List.eraseIdx_cons_succ])
          refine W ?_
          (first | refine LS_gt rfl ?_ ?_ | refine LS_gf rfl ?_ ?_ | refine LI_cond rfl ?_ ?_) <;> intro hc <;> have hc' := hc <;> try simp only [decide_eq_true_eq, decide_eq_false_iff_not, Bool.not_eq_true', Bool.not_eq_false', Bool.not_eq_true, Bool.not_eq_false, beq_iff_eq, bne_iff_ne, beq_eq_false_iff_ne, bne_eq_false_iff_eq, Int.not_lt, Int.not_le, ge_iff_le, gt_iff_lt, not_and, ne_eq, Decidable.not_not] at hc'
          all_goals (try (dsimp only [st, setL, AV.cells, List.set_cons_zero, List.set_cons_succ, List.drop_zero, List.drop_succ_cons, List.take_zero, List.take_succ_cons, Nat.zero_add, Nat.add_zero, Nat.reduceAdd, List.cons_append, List.nil_append, List.eraseIdx_cons_zero, List.eraseIdx_cons_succ]))
          all_goals (refine W ?_)
          · have hy0 : matOk m y = false := nt hc
            have hx : rmOk p m l = false := by rw [rmOk, heq, hy0]; simp
            rw [rmR, hx, if_neg (by simp)]
            refine RET fun h' HL => ?_
            try dsimp only [oneA]
            exact TupQ.none HL
          · have hy0 : matOk m y = true := nf hc
            rw [hy0, Bool.true_and] at heq
            refine LIL_drop 1 ?_
            refine IH (n - 1) _ _ (by omega) ⟨i + 1, exJ rfl, rfl, by omega, by omega, by rw [toNat_succ h0]; exact heq⟩
        · rw [List.drop_eq_nil_of_le (by omega)] at heq
          have hall : l.all (matOk m) = true := heq
          have hall' := List.all_eq_true.1 hall
          have hx : rmOk p m l = true := by rw [rmOk, hk, hm, hln, hall]; rfl
          rw [rmR, hx, if_pos rfl]
          clear IH
          refine W ?_
          refine LS_lt ([] : List MatM) rfl rfl (by decide) rfl rfl rfl rfl enMat4 rfl rfl fun w1 lw1 sw1 => ?_
          try (dsimp only [st, setL, AV.cells, List.set_cons_zero, List.set_cons_succ, List.drop_zero, List.drop_succ_cons, List.take_zero, List.take_succ_cons, Nat.zero_add, Nat.add_zero, Nat.reduceAdd, List.cons_append, List.nil_append, List.eraseIdx_cons_zero, List.eraseIdx_cons_succ])
          refine W ?_
          refine LS_ap0 0 rfl (fun h' HL => hl.le HL.le) enMat4 (by decide) (by simp; omega) (by simp; omega) rfl rfl rfl fun w2 lw2 sw2 => ?_
          try (dsimp only [st, setL, AV.cells, List.set_cons_zero, List.set_cons_succ, List.drop_zero, List.drop_succ_cons, List.take_zero, List.take_succ_cons, Nat.zero_add, Nat.add_zero, Nat.reduceAdd, List.cons_append, List.nil_append, List.eraseIdx_cons_zero, List.eraseIdx_cons_succ])
          refine W ?_
          refine LIL_ind (fun n a L => ∃ (i : Int) (u : AV) (o : List MatM), (∃ r : Nat → AV, a = [r 0, .i .i64 m, r 2, .p b1 0, r 4, r 5, r 6, r 7, r 8, r 9, u, r 11, r 12, r 13, r 14, r 15, r 16, r 17, r 18, r 19, r 20, r 21, r 22, r 23, r 24, r 25, r 26, r 27, r 28, r 29, r 30, r 31, r 32, r 33, r 34, r 35, r 36, r 37, r 38, r 39, r 40, r 41, r 42, r 43, r 44, r 45, vs, .i .i64 p.steps.length, .i .i64 i, r 49, r 50, r 51, r 52, r 53, r 54, r 55, r 56, r 57, r 58, r 59, r 60, r 61, r 62, r 63, r 64, r 65, r 66, r 67, r 68, r 69, r 70, r 71, r 72, r 73, r 74, r 75, r 76, r 77, r 78, r 79, r 80, r 81, r 82, r 83]) ∧ L = [.sl u 4 (o.flatMap enMat), .pt b1 [.i .i64 p.n, vs, vo]] ∧ 0 ≤ i ∧ i + n = p.steps.length ∧ runM (matMul m) p.steps l = runM (matMul m) (p.steps.drop i.toNat) o ∧ (o.length : Int) = p.n + i ∧ ∀ x ∈ o, matOk m x = true)
            p.steps.length ⟨0, w2, l, exJ rfl, rfl, by omega, by omega, rfl, by omega, hall'⟩ ?_
          rintro n a L ⟨i, u, o, ⟨r, rfl⟩, rfl, h0, hn', heq, hol, hPo⟩ IH
          refine W ?_
          (first | refine LS_gt rfl ?_ ?_ | refine LS_gf rfl ?_ ?_ | refine LI_cond rfl ?_ ?_) <;> intro hc <;> have hc' := hc <;> try simp only [decide_eq_true_eq, decide_eq_false_iff_not, Bool.not_eq_true', Bool.not_eq_false', Bool.not_eq_true, Bool.not_eq_false, beq_iff_eq, bne_iff_ne, beq_eq_false_iff_ne, bne_eq_false_iff_eq, Int.not_lt, Int.not_le, ge_iff_le, gt_iff_lt, not_and, ne_eq, Decidable.not_not] at hc'
          all_goals (try (dsimp only [st, setL, AV.cells, List.set_cons_zero, List.set_cons_succ, List.drop_zero, List.drop_succ_cons, List.take_zero, List.take_succ_cons, Nat.zero_add, Nat.add_zero, Nat.reduceAdd, List.cons_append, List.nil_append, List.eraseIdx_cons_zero, List.eraseIdx_cons_succ]))
          all_goals (refine W ?_)
          · obtain ⟨s, hs', _, hd⟩ := drop_at (l := p.steps) h0 hc'
            have hb := formedS_get hf hs'
            have l1 : s.1.toNat < o.length := by omega
            have l2 : s.2.toNat < o.length := by omega
            have g1 : o[s.1.toNat]? = some o[s.1.toNat] := List.getElem?_eq_getElem l1
            have g2 : o[s.2.toNat]? = some o[s.2.toNat] := List.getElem?_eq_getElem l2
            have p1 := hPo _ (List.getElem_mem l1)
            have p2 := hPo _ (List.getElem_mem l2)
            have e : runS (matMul m) o s = o ++ [matMul m o[s.1.toNat] o[s.2.toNat]] := by simp [runS, g1, g2]
            rw [hd, runM_cons, e] at heq
            generalize o[s.1.toNat] = x at *
            generalize o[s.2.toNat] = y at *
            refine LS_ix (fun h' HL => hs.le HL.le) enStep2 hs' h0 rfl rfl fun q1 o1 hrow1 => ?_
            try (dsimp only [st, setL, AV.cells, List.set_cons_zero, List.set_cons_succ, List.drop_zero, List.drop_succ_cons, List.take_zero, List.take_succ_cons, Nat.zero_add, Nat.add_zero, Nat.reduceAdd, List.cons_append, List.nil_append, List.eraseIdx_cons_zero, List.eraseIdx_cons_succ])
            refine W ?_
            refine LS_al rfl fun b3 => ?_
            try (dsimp only [st, setL, AV.cells, List.set_cons_zero, List.set_cons_succ, List.drop_zero, List.drop_succ_cons, List.take_zero, List.take_succ_cons, Nat.zero_add, Nat.add_zero, Nat.reduceAdd, List.cons_append, List.nil_append, List.eraseIdx_cons_zero, List.eraseIdx_cons_succ])
            refine W ?_
            refine dz8_0 ?_
            refine WX ?_
            refine W ?_
            refine LX_ix (fun h' HL => HL.rdI 1 rfl enMat4 (by decide)) enMat4 g1 (by omega) rfl rfl noG fun q2 o2 hrow2 => ?_
            try (dsimp only [st, setL, AV.cells, List.set_cons_zero, List.set_cons_succ, List.drop_zero, List.drop_succ_cons, List.take_zero, List.take_succ_cons, Nat.zero_add, Nat.add_zero, Nat.reduceAdd, List.cons_append, List.nil_append, List.eraseIdx_cons_zero, List.eraseIdx_cons_succ])
            refine WX ?_
            refine W ?_
            refine LX_ix (fun h' HL => HL.rdI 1 rfl enMat4 (by decide)) enMat4 g2 (by omega) rfl rfl noG fun q3 o3 hrow3 => ?_
            try (dsimp only [st, setL, AV.cells, List.set_cons_zero, List.set_cons_succ, List.drop_zero, List.drop_succ_cons, List.take_zero, List.take_succ_cons, Nat.zero_add, Nat.add_zero, Nat.reduceAdd, List.cons_append, List.nil_append, List.eraseIdx_cons_zero, List.eraseIdx_cons_succ])
            refine WX ?_
            refine W ?_
            refine LX_c0 (fun h' HL wf => moTimes_ac x y m h'.frz hmb.1 hmb.2 p1 p2) rfl rfl noG ?_
            try (dsimp only [st, setL, AV.cells, List.set_cons_zero, List.set_cons_succ, List.drop_zero, List.drop_succ_cons, List.take_zero, List.take_succ_cons, Nat.zero_add, Nat.add_zero, Nat.reduceAdd, List.cons_append, List.nil_append, List.eraseIdx_cons_zero, List.eraseIdx_cons_succ])
            refine WX ?_
            refine W ?_
            refine LX_lt [matMul m x y] rfl rfl (by decide) rfl rfl rfl rfl enMat4 rfl rfl noG fun w4 hw4 sw4 => ?_
            try (dsimp only [st, setL, AV.cells, List.set_cons_zero, List.set_cons_succ, List.drop_zero, List.drop_succ_cons, List.take_zero, List.take_succ_cons, Nat.zero_add, Nat.add_zero, Nat.reduceAdd, List.cons_append, List.nil_append, List.eraseIdx_cons_zero, List.eraseIdx_cons_succ])
            refine WX ?_
            refine W ?_
            refine LX_f noG (LO_ap 2 rfl (fun h' HL => HL.rdI 0 rfl enMat4 (by decide)) enMat4 (by decide) (by simp) (by simp; omega) (by simp; omega) rfl rfl rfl fun w5 hw5 sw5 => ?_)
            try (dsimp only [st, setL, AV.cells, List.set_cons_zero, List.set_cons_succ, List.drop_zero, List.drop_succ_cons, List.take_zero, List.take_succ_cons, Nat.zero_add, Nat.add_zero, Nat.reduceAdd, List.cons_append, List.nil_append, List.eraseIdx_cons_zero, List.eraseIdx_cons_succ])
            refine WX ?_
            refine W ?_
            refine LIL_drop 2 ?_
            refine IH (n - 1) _ _ (by omega) ⟨i + 1, _, _, exJ rfl, rfl, by omega, by omega, by rw [toNat_succ h0]; exact heq, by simp; omega, ?_⟩
            intro z hz
            rcases List.mem_append.1 hz with hz | hz
            · exact hPo z hz
            · rw [List.mem_singleton.1 hz]; exact matMul_ok hmb.1 p1 p2
          · rw [List.drop_eq_nil_of_le (by omega)] at heq
            have heq' : runM (matMul m) p.steps l = o := heq
            have hout := outs_in (F := matMul m) hk hln'
            rw [heq'] at hout ⊢
            clear IH
            refine W ?_
            refine LIL_nl (k := 4) ?_
            refine LIL_ind (fun n a L => ∃ (i : Int) (z : AV), (∃ r : Nat → AV, a = [r 0, r 1, r 2, r 3, r 4, r 5, r 6, r 7, r 8, r 9, u, r 11, r 12, z, r 14, r 15, r 16, r 17, r 18, r 19, r 20, r 21, r 22, r 23, r 24, r 25, r 26, r 27, r 28, r 29, r 30, r 31, r 32, r 33, r 34, r 35, r 36, r 37, r 38, r 39, r 40, r 41, r 42, r 43, r 44, r 45, r 46, r 47, r 48, r 49, r 50, r 51, r 52, r 53, r 54, r 55, r 56, r 57, r 58, r 59, r 60, r 61, r 62, r 63, r 64, r 65, r 66, r 67, r 68, vo, .i .i64 p.outs.length, .i .i64 i, r 72, r 73, r 74, r 75, r 76, r 77, r 78, r 79, r 80, r 81, r 82, r 83]) ∧ L = [.sl z 4 ((pickM o (p.outs.take i.toNat)).flatMap enMat), .sl u 4 (o.flatMap enMat), .pt b1 [.i .i64 p.n, vs, vo]] ∧ 0 ≤ i ∧ i + n = p.outs.length)
              p.outs.length ⟨0, _, exJ rfl, rfl, by omega, by omega⟩ ?_
            rintro n a L ⟨i, z, ⟨r, rfl⟩, rfl, h0, hn⟩ IH
            have hel := pickM_len o (p.outs.take i.toNat)
            rw [List.length_take] at hel
            refine W ?_
            (first | refine LS_gt rfl ?_ ?_ | refine LS_gf rfl ?_ ?_ | refine LI_cond rfl ?_ ?_) <;> intro hc <;> have hc' := hc <;> try simp only [decide_eq_true_eq, decide_eq_false_iff_not, Bool.not_eq_true', Bool.not_eq_false', Bool.not_eq_true, Bool.not_eq_false, beq_iff_eq, bne_iff_ne, beq_eq_false_iff_ne, bne_eq_false_iff_eq, Int.not_lt, Int.not_le, ge_iff_le, gt_iff_lt, not_and, ne_eq, Decidable.not_not] at hc'
            all_goals (try (dsimp only [st, setL, AV.cells, List.set_cons_zero, List.set_cons_succ, List.drop_zero, List.drop_succ_cons, List.take_zero, List.take_succ_cons, Nat.zero_add, Nat.add_zero, Nat.reduceAdd, List.cons_append, List.nil_append, List.eraseIdx_cons_zero, List.eraseIdx_cons_succ]))
            all_goals (refine W ?_)
            · obtain ⟨y, hy, hym, hd⟩ := drop_at (l := p.outs) h0 hc'
              have hyb := hout y hym
              have l1 : y.toNat < o.length := by omega
              have g1 : o[y.toNat]? = some o[y.toNat] := List.getElem?_eq_getElem l1
              have e : pickM o (p.outs.take (i + 1).toNat) = pickM o (p.outs.take i.toNat) ++ [o[y.toNat]] := by
                rw [toNat_succ h0, take_snoc hy, pickM, List.filterMap_append]
                simp [g1, pickM]
              refine LS_ix (fun h' HL => ho.le HL.le) enI1 hy h0 rfl rfl fun q1 o1 hrow1 => ?_
              try (dsimp only [st, setL, AV.cells, List.set_cons_zero, List.set_cons_succ, List.drop_zero, List.drop_succ_cons, List.take_zero, List.take_succ_cons, Nat.zero_add, Nat.add_zero, Nat.reduceAdd, List.cons_append, List.nil_append, List.eraseIdx_cons_zero, List.eraseIdx_cons_succ])
              refine W ?_
              refine LS_ix (fun h' HL => HL.rdI 1 rfl enMat4 (by decide)) enMat4 g1 hyb.1 rfl rfl fun q2 o2 hrow2 => ?_
              try (dsimp only [st, setL, AV.cells, List.set_cons_zero, List.set_cons_succ, List.drop_zero, List.drop_succ_cons, List.take_zero, List.take_succ_cons, Nat.zero_add, Nat.add_zero, Nat.reduceAdd, List.cons_append, List.nil_append, List.eraseIdx_cons_zero, List.eraseIdx_cons_succ])
              refine W ?_
              refine LS_lt [o[y.toNat]] rfl rfl (by decide) rfl rfl rfl rfl enMat4 rfl rfl fun lit4 hlit4 slit4 => ?_
              try (dsimp only [st, setL, AV.cells, List.set_cons_zero, List.set_cons_succ, List.drop_zero, List.drop_succ_cons, List.take_zero, List.take_succ_cons, Nat.zero_add, Nat.add_zero, Nat.reduceAdd, List.cons_append, List.nil_append, List.eraseIdx_cons_zero, List.eraseIdx_cons_succ])
              refine W ?_
              refine LS_ap 1 rfl (fun h' HL => HL.rdI 0 rfl enMat4 (by decide)) enMat4 (by decide) (by simp) (by simp; omega) (by simp; omega) rfl rfl rfl fun w5 hw5 sw5 => ?_
              try (dsimp only [st, setL, AV.cells, List.set_cons_zero, List.set_cons_succ, List.drop_zero, List.drop_succ_cons, List.take_zero, List.take_succ_cons, Nat.zero_add, Nat.add_zero, Nat.reduceAdd, List.cons_append, List.nil_append, List.eraseIdx_cons_zero, List.eraseIdx_cons_succ])
              refine W ?_
              refine LIL_drop 1 ?_
              refine IH (n - 1) _ _ (by omega) ⟨i + 1, _, exJ rfl, by rw [e]; rfl, by omega, by omega⟩
            · have ei : i.toNat = p.outs.length := by omega
              rw [ei, List.take_length]
              refine RET fun h' HL => ?_
              try dsimp only [oneA]
              exact TupQ.of (HL.ownI 0 rfl enMat4 (by decide))
    · have hx : rmOk p m l = false := by rw [rmOk, nt hc]; simp
      rw [rmR, hx, if_neg (by simp)]
      refine RET fun h' HL => ?_
      try dsimp only [oneA]
      exact TupQ.none HL
  · have hx : rmOk p m l = false := by rw [rmOk, nt hc, Bool.false_and]
    rw [rmR, hx, if_neg (by simp)]
    refine RET fun h' HL => ?_
    try dsimp only [oneA]
    exact TupQ.none HL

def stepM (a b : Int) : Int × Int := (if b < a then b else a, if b > a then b else a)

theorem plStep_ac (x y : Int) (h : AH) : AC Try.prog 71 [.i .i64 x, .i .i64 y] h (fun r h' => r = .agg (enStep (stepM x y)) ∧ h.le h') := by
  have e1 : (if x < y then x else y) = (if y < x then y else x) := by split <;> split <;> omega
  have e2 : (if y < x then x else y) = (if y > x then y else x) := by split <;> split <;> omega
  refine e71 _ _ fun wf => ?_
  unfold c71
  refine LI_start wf ?_
  refine W ?_
  refine LS_al rfl fun b1 => ?_
  try (dsimp only [st, setL, AV.cells, List.set_cons_zero, List.set_cons_succ, List.drop_zero, List.drop_succ_cons, List.take_zero, List.take_succ_cons, Nat.zero_add, Nat.add_zero, Nat.reduceAdd, List.cons_append, List.nil_append, List.eraseIdx_cons_zero, List.eraseIdx_cons_succ])
  refine W ?_
  refine LS_c0 (fun h' HL wf => l1Least_ac x y h') rfl rfl ?_
  try (dsimp only [st, setL, AV.cells, List.set_cons_zero, List.set_cons_succ, List.drop_zero, List.drop_succ_cons, List.take_zero, List.take_succ_cons, Nat.zero_add, Nat.add_zero, Nat.reduceAdd, List.cons_append, List.nil_append, List.eraseIdx_cons_zero, List.eraseIdx_cons_succ])
  refine W ?_
  refine LS_c0 (fun h' HL wf => l1Most_ac x y h') rfl rfl ?_
  try (dsimp only [st, setL, AV.cells, List.set_cons_zero, List.set_cons_succ, List.drop_zero, List.drop_succ_cons, List.take_zero, List.take_succ_cons, Nat.zero_add, Nat.add_zero, Nat.reduceAdd, List.cons_append, List.nil_append, List.eraseIdx_cons_zero, List.eraseIdx_cons_succ])
  refine W ?_
  refine RET fun h' HL => ?_
  try dsimp only [oneA]
  exact ⟨by rw [e1, e2]; rfl, HL.le⟩

def zeroP : AV := .agg [.i .i64 0, .ns, .ns]

/-! ### Outputs folded -/
theorem LS_rm {P : Program} {h0 : AH} {L : List It} {Q : Exit → List AV → List It → Prop} {a : List AV} {l : List IOp} (k : Nat) (H : LS P h0 (L.eraseIdx k) l Q a) : LS P h0 L l Q a := LS_sub (List.eraseIdx_sublist L k) H

theorem LIL_rm {P : Program} {h0 : AH} {L : List It} {Q : Exit → List AV → List It → Prop} {a : List AV} {c : IC} (k : Nat) (H : LIL P h0 (L.eraseIdx k) c Q a) : LIL P h0 L c Q a := LIL_sub (List.eraseIdx_sublist L k) H

/-- A plan handed back, and whether. -/
def TupP (q : PlanM) (ok : Bool) (r : AV) (M : List It) : Prop := ∃ ws wo, r = .tup [.agg [.i .i64 q.n, ws, wo], .b ok] ∧ lenA ws = some q.steps.length ∧ ws.sc = true ∧ lenA wo = some q.outs.length ∧ wo.sc = true ∧ M = [.sl ws 2 (q.steps.flatMap enStep), .sl wo 1 (q.outs.flatMap enI)]

theorem TupP.none {h0 h : AH} {L : List It} (H : Loq h0 h L) : ∃ M, TupP emptyPlan false (.tup [zeroP, .b false]) M ∧ Loq h0 h M := ⟨_, ⟨.ns, .ns, rfl, rfl, rfl, rfl, rfl, rfl⟩, loq_ns (loq_ns (H.sub (List.nil_sublist _)) 1) 2⟩

def TupPP (q1 q2 : PlanM) (ok : Bool) (r : AV) (M : List It) : Prop := ∃ ws wo xs xo, r = .tup [.agg [.i .i64 q1.n, ws, wo], .agg [.i .i64 q2.n, xs, xo], .b ok] ∧ (lenA ws = some q1.steps.length ∧ ws.sc = true ∧ lenA wo = some q1.outs.length ∧ wo.sc = true) ∧ (lenA xs = some q2.steps.length ∧ xs.sc = true ∧ lenA xo = some q2.outs.length ∧ xo.sc = true) ∧ M = [.sl ws 2 (q1.steps.flatMap enStep), .sl wo 1 (q1.outs.flatMap enI), .sl xs 2 (q2.steps.flatMap enStep), .sl xo 1 (q2.outs.flatMap enI)]

theorem TupPP.none {h0 h : AH} {L : List It} (H : Loq h0 h L) : ∃ M, TupPP emptyPlan emptyPlan false (.tup [zeroP, zeroP, .b false]) M ∧ Loq h0 h M := ⟨_, ⟨.ns, .ns, .ns, .ns, rfl, ⟨rfl, rfl, rfl, rfl⟩, ⟨rfl, rfl, rfl, rfl⟩, rfl⟩, loq_ns (loq_ns (loq_ns (loq_ns (H.sub (List.nil_sublist _)) 1) 2) 1) 2⟩

theorem foldE_pre : ∀ (l : List (Int × Int)) (ll : List (List Int)) (j : Nat), j < ll.length → (l.foldl stepE ll)[j]? = ll[j]?
  | [], _, _, _ => rfl
  | s :: l, ll, j, h => by
    rw [List.foldl_cons, foldE_pre l _ j (by simp [stepE]; omega), stepE, List.getElem?_append_left h]

theorem exps_low {p : PlanM} {j : Nat} (hj : j < p.n.toNat) : (expsE p)[j]? = some (unitRow p.n.toNat j) := by
  rw [expsE, foldE_pre _ _ _ (by rw [unitsE, List.length_map, List.length_range]; exact hj)]
  simp [unitsE, hj]

theorem expsE_len {p : PlanM} (hf : formedS p.n 0 p.steps = true) (hn : 1 ≤ p.n) : (expsE p).length = p.n.toNat + p.steps.length := by rw [← expsT_end]; exact (expsT_ok hf hn _ (Nat.le_refl _)).1

theorem exps_step {p : PlanM} (hn : 1 ≤ p.n) (hf : formedS p.n 0 p.steps = true) {i : Nat} {s : Int × Int} (hs : p.steps[i]? = some s) :
    (expsE p)[p.n.toNat + i]? = some (sumR ((expsE p).getD s.1.toNat []) ((expsE p).getD s.2.toNat [])) := by
  have hlt := (List.getElem?_eq_some_iff.1 hs).1
  have hb := formedS_get hf hs
  have e : p.steps = p.steps.take i ++ s :: p.steps.drop (i + 1) := by
    rw [← (List.getElem?_eq_some_iff.1 hs).2, ← List.drop_eq_getElem_cons hlt, List.take_append_drop]
  have hl := (expsT_ok hf hn i (by omega)).1
  have hE : expsE p = (p.steps.drop (i + 1)).foldl stepE (stepE (expsT p i) s) := by
    rw [expsE]
    conv => lhs; rw [e]
    rw [List.foldl_append, List.foldl_cons]
    rfl
  have hpre : ∀ j : Nat, j < p.n.toNat + i → (expsE p).getD j [] = (expsT p i).getD j [] := fun j hj => by
    rw [hE]
    simp only [List.getD]
    rw [foldE_pre _ _ _ (by simp [stepE]; omega), stepE, List.getElem?_append_left (by omega)]
  rw [hpre _ (by omega), hpre _ (by omega), hE, foldE_pre _ _ _ (by simp [stepE]; omega), stepE, List.getElem?_append_right (by omega), hl, Nat.sub_self]
  rfl

theorem sumR_get {x y : List Int} {i : Nat} (hl : x.length = y.length) (hi : i < x.length) (hb : (sumR x y).getD i 0 ≤ 1000000) : (sumR x y).getD i 0 = x.getD i 0 + y.getD i 0 := by
  simp only [sumR, List.getD, List.getElem?_zipWith, List.getElem?_eq_getElem hi, List.getElem?_eq_getElem (show i < y.length by omega), Option.getD_some] at hb ⊢
  split at hb
  · rename_i h; rw [if_pos h]
  · omega

theorem exps_row {p : PlanM} (hf : formedS p.n 0 p.steps = true) (hn : 1 ≤ p.n) {v : Nat} (hv : v < p.n.toNat + p.steps.length) : ((expsE p).getD v []).length = p.n.toNat := by
  have hl := expsE_len hf hn
  have := (expsT_ok hf hn _ (Nat.le_refl _)).2
  rw [expsT_end] at this
  exact (this _ (List.mem_of_getElem? (getD_get (by omega)))).1

theorem exps_bd {p : PlanM} (hk : planOk p = true) {v i : Nat} (hv : v < p.n.toNat + p.steps.length) (hi : i < p.n.toNat) : 0 ≤ ((expsE p).getD v []).getD i 0 ∧ ((expsE p).getD v []).getD i 0 ≤ 1000000 := by
  obtain ⟨h1, h2, h3, h4, hf, h6⟩ := planOk_out hk
  have hr := exps_row hf h1 hv
  simp only [planOk, Bool.and_eq_true] at hk
  have h7 := hk.2.1
  rw [smallE, List.all_eq_true] at h7
  have h8 := h7 _ (List.mem_of_getElem? (getD_get (by rw [expsE_len hf h1]; exact hv)))
  have h9 := of_decide_eq_true ((List.all_eq_true.1 h8) _ (List.mem_of_getElem? (List.getElem?_eq_getElem (show i < ((expsE p).getD v []).length by omega))))
  simp only [List.getD, List.getElem?_eq_getElem (show i < ((expsE p)[v]?.getD []).length by simpa [List.getD] using (by omega : i < ((expsE p).getD v []).length)), Option.getD_some] at h9 ⊢
  exact h9

/-! ### Runs of plans: plain laws -/
theorem runM_at {α : Type} {F : α → α → α} {n : Int} (hn : 0 ≤ n) : ∀ (l : List (Int × Int)) (i : Nat) (o : List α) (k : Nat) (s : Int × Int), formedS n i l = true → (o.length : Int) = n + i → l[k]? = some s →
    ∃ x y, (runM F l o)[s.1.toNat]? = some x ∧ (runM F l o)[s.2.toNat]? = some y ∧ (runM F l o)[n.toNat + i + k]? = some (F x y)
  | [], i, o, k, s, _, _, h => by simp at h
  | s0 :: l, i, o, k, s, hf, ho, h => by
    have hs := formedS_get (i := 0) (s := s0) hf rfl
    have h1 : s0.1.toNat < o.length := by omega
    have h2 : s0.2.toNat < o.length := by omega
    have e : runS F o s0 = o ++ [F o[s0.1.toNat] o[s0.2.toNat]] := by simp [runS, h1, h2]
    have hf' : formedS n (i + 1) l = true := by simp only [formedS, Bool.and_eq_true] at hf; exact hf.2
    rw [runM_cons, e]
    cases k with
    | zero =>
      simp at h; subst h
      obtain ⟨t, ht⟩ := runM_pre F l (o ++ [F o[s0.1.toNat] o[s0.2.toNat]])
      refine ⟨o[s0.1.toNat], o[s0.2.toNat], ?_, ?_, ?_⟩
      · rw [ht, List.append_assoc, List.getElem?_append_left h1, List.getElem?_eq_getElem h1]
      · rw [ht, List.append_assoc, List.getElem?_append_left h2, List.getElem?_eq_getElem h2]
      · rw [ht, List.append_assoc, show n.toNat + i + 0 = o.length by omega, List.getElem?_append_right (Nat.le_refl _), Nat.sub_self]; rfl
    | succ k =>
      obtain ⟨x, y, g1, g2, g3⟩ := runM_at hn l (i + 1) (o ++ [F o[s0.1.toNat] o[s0.2.toNat]]) k s hf' (by simp; omega) (by simpa using h)
      exact ⟨x, y, g1, g2, by rw [show n.toNat + i + (k + 1) = n.toNat + (i + 1) + k by omega]; exact g3⟩

theorem run_low {α : Type} {F : α → α → α} {l : List (Int × Int)} {o : List α} {j : Nat} (h : j < o.length) : (runM F l o)[j]? = o[j]? := by
  obtain ⟨t, ht⟩ := runM_pre F l o
  rw [ht, List.getElem?_append_left h]

theorem plan_ind {n : Int} {l : List (Int × Int)} (hf : formedS n 0 l = true) (hn : 0 ≤ n) (C : Nat → Prop) (h0 : ∀ v : Nat, v < n.toNat → C v) (h1 : ∀ (k : Nat) (s : Int × Int), l[k]? = some s → s.1.toNat < n.toNat + k → s.2.toNat < n.toNat + k → C s.1.toNat → C s.2.toNat → C (n.toNat + k)) : ∀ v : Nat, v < n.toNat + l.length → C v := by
  intro v
  induction v using Nat.strongRecOn with
  | _ v ih =>
    intro hv
    by_cases hvn : v < n.toNat
    · exact h0 v hvn
    · obtain ⟨k, rfl⟩ : ∃ k, v = n.toNat + k := ⟨v - n.toNat, by omega⟩
      obtain ⟨s, hs⟩ : ∃ s, l[k]? = some s := ⟨_, List.getElem?_eq_getElem (by omega)⟩
      have hb := formedS_get hf hs
      exact h1 k s hs (by omega) (by omega) (ih _ (by omega) (by omega)) (ih _ (by omega) (by omega))

theorem prodP_rep0 : ∀ (n : Nat) (xs : List Int), prodP (List.replicate n 0) xs = 1
  | 0, xs => by cases xs <;> rfl
  | n + 1, [] => rfl
  | n + 1, x :: xs => by rw [List.replicate_succ, prodP, prodP_rep0 n xs]; simp

theorem prodP_unit : ∀ (n k : Nat) (xs : List Int), k < n → xs.length = n → prodP (unitRow n k) xs = xs.getD k 0
  | 0, k, xs, h, _ => by omega
  | n + 1, 0, x :: xs, _, hl => by rw [unitRow, List.replicate_succ, List.set_cons_zero, prodP, prodP_rep0, show (1 : Int).toNat = 1 from rfl, Int.pow_succ, Int.pow_zero]; simp
  | n + 1, k + 1, x :: xs, h, hl => by
    have ih := prodP_unit n k xs (by omega) (by simpa using hl)
    rw [unitRow] at ih ⊢
    rw [List.replicate_succ, List.set_cons_succ, prodP, ih]
    simp
  | n + 1, k, [], _, hl => by simp at hl

theorem prodP_add : ∀ (z x y xs : List Int), z.length = x.length → z.length = y.length → (∀ k : Nat, k < z.length → z.getD k 0 = x.getD k 0 + y.getD k 0 ∧ 0 ≤ x.getD k 0 ∧ 0 ≤ y.getD k 0) → prodP z xs = prodP x xs * prodP y xs
  | [], [], [], xs, _, _, _ => by simp [prodP]
  | z :: zs, x :: ys, y :: ws, [], _, _, _ => by simp [prodP]
  | z :: zs, x :: ys, y :: ws, c :: cs, h1, h2, h => by
    have h0 := h 0 (by simp)
    simp at h0
    rw [prodP, prodP, prodP, prodP_add zs ys ws cs (by simpa using h1) (by simpa using h2) (fun k hk => by simpa using h (k + 1) (by simpa using hk)), h0.1, show (x + y).toNat = x.toNat + y.toNat by omega, Int.pow_add]
    simp only [Int.mul_assoc, Int.mul_comm, Int.mul_left_comm]
  | [], _ :: _, _, _, h, _, _ => by simp at h
  | [], [], _ :: _, _, _, h, _ => by simp at h
  | _ :: _, [], _, _, h, _, _ => by simp at h
  | _ :: _, _ :: _, [], _, _, h, _ => by simp at h

theorem exps_add {p : PlanM} (hk : planOk p = true) {k : Nat} {s : Int × Int} (hs : p.steps[k]? = some s) : ∃ z x y, z = (expsE p).getD (p.n.toNat + k) [] ∧ x = (expsE p).getD s.1.toNat [] ∧ y = (expsE p).getD s.2.toNat [] ∧ z.length = p.n.toNat ∧ x.length = p.n.toNat ∧ y.length = p.n.toNat ∧ ∀ i : Nat, i < p.n.toNat → z.getD i 0 = x.getD i 0 + y.getD i 0 ∧ 0 ≤ x.getD i 0 ∧ 0 ≤ y.getD i 0 := by
  obtain ⟨h1, h2, h3, h4, hf, h6⟩ := planOk_out hk
  have hlt := (List.getElem?_eq_some_iff.1 hs).1
  have hb := formedS_get hf hs
  have he : (expsE p).getD (p.n.toNat + k) [] = sumR ((expsE p).getD s.1.toNat []) ((expsE p).getD s.2.toNat []) := by rw [List.getD, exps_step h1 hf hs]; rfl
  have r0 := exps_row hf h1 (v := p.n.toNat + k) (by omega)
  have r1 := exps_row hf h1 (v := s.1.toNat) (by omega)
  have r2 := exps_row hf h1 (v := s.2.toNat) (by omega)
  refine ⟨_, _, _, rfl, rfl, rfl, r0, r1, r2, fun i hi => ⟨?_, (exps_bd hk (by omega) hi).1, (exps_bd hk (by omega) hi).1⟩⟩
  have hbd := exps_bd hk (v := p.n.toNat + k) (by omega) hi
  rw [he] at hbd ⊢
  exact sumR_get (by rw [r1, r2]) (by rw [r1]; exact hi) hbd.2

theorem mulM_e {m x y : Int} (hx : 0 ≤ x) (hy : 0 ≤ y) : mulM m x y = (x * y) % m := tm (Int.mul_nonneg hx hy)

theorem run_prod {p : PlanM} (hk : planOk p = true) {m : Int} (hm : 2 ≤ m) {xs : List Int} (hn : (xs.length : Int) = p.n) (hx : ∀ x ∈ xs, inM m x) : ∀ v : Nat, v < p.n.toNat + p.steps.length →
    (runM (mulM m) p.steps xs)[v]? = some (prodP ((expsE p).getD v []) xs % m) := by
  obtain ⟨h1, h2, h3, h4, hf, h6⟩ := planOk_out hk
  refine plan_ind hf (by omega) (fun v => (runM (mulM m) p.steps xs)[v]? = some (prodP ((expsE p).getD v []) xs % m)) (fun v hv => ?_) fun k s hs b1 b2 i1 i2 => ?_
  · have hlt : v < xs.length := by omega
    have hb := hx _ (List.getElem_mem hlt)
    rw [run_low hlt, show (expsE p).getD v [] = unitRow p.n.toNat v by rw [List.getD, exps_low hv]; rfl, prodP_unit _ _ _ hv (by omega), List.getD, List.getElem?_eq_getElem hlt, Option.getD_some, Int.emod_eq_of_lt hb.1 (by have := hb.2; omega)]
  · obtain ⟨a, b, g1, g2, g3⟩ := runM_at (F := mulM m) (by omega) p.steps 0 xs k s hf (by simpa using hn) hs
    obtain ⟨z, x, y, e1, e2, e3, l1, l2, l3, hz⟩ := exps_add hk hs
    rw [i1] at g1; cases g1
    rw [i2] at g2; cases g2
    rw [show p.n.toNat + k = p.n.toNat + 0 + k by omega, g3, mulM_e (Int.emod_nonneg _ (by omega)) (Int.emod_nonneg _ (by omega)), ← Int.mul_emod, ← e2, ← e3, show p.n.toNat + 0 + k = p.n.toNat + k by omega, ← e1, prodP_add z x y xs (by omega) (by omega) (fun i hi => hz i (by omega))]

theorem exps_all {p : PlanM} (hk : planOk p = true) {v : Nat} (hv : v < p.n.toNat + p.steps.length) : ∀ e ∈ (expsE p).getD v [], 0 ≤ e ∧ e ≤ 1000000 := by
  obtain ⟨h1, h2, h3, h4, hf, h6⟩ := planOk_out hk
  intro e he
  obtain ⟨i, hi, rfl⟩ := List.getElem_of_mem he
  have := exps_bd hk hv (i := i) (by rw [exps_row hf h1 hv] at hi; exact hi)
  rw [List.getD, List.getElem?_eq_getElem hi] at this
  exact this

theorem run_pows {p : PlanM} (hk : planOk p = true) {m : Int} (hm : 2 ≤ m ∧ m ≤ 10000) {xs : List Int} (hn : (xs.length : Int) = p.n) (hx : ∀ x ∈ xs, inM m x) {v : Nat} (hv : v < p.n.toNat + p.steps.length) {y : Int} (hy : (runM (mulM m) p.steps xs)[v]? = some y) :
    powsM m ((expsE p).getD v []) xs = (y, true) := by
  obtain ⟨h1, h2, h3, h4, hf, h6⟩ := planOk_out hk
  have hr := exps_row hf h1 hv
  have hb := exps_all hk hv
  have hok : powsOk m ((expsE p).getD v []) xs = true := by
    simp only [powsOk, Bool.and_eq_true, decide_eq_true_eq, Bool.not_eq_true', bne_eq_false_iff_eq, List.all_eq_true]
    exact ⟨hm, by omega, by omega, hx, hb⟩
  rw [run_prod hk hm.1 hn hx v hv] at hy
  cases hy
  rw [powsM, hok, if_pos rfl, fldP_eq hm.1 _ _ _ (fun e he => (hb e he).1) (fun x h => (hx x h).1) (by omega) (by omega), Int.one_mul]

/-! Matrices. -/
theorem pwM_add {m : Int} (hm : 2 ≤ m) {a : MatM} (ha : redM m a) (i : Nat) : ∀ j : Nat, pwM m a (i + j) = matMul m (pwM m a i) (pwM m a j)
  | 0 => by rw [Nat.add_zero, pwM, (matMul_id hm (pwM_red hm ha i)).2]
  | j + 1 => by rw [← Nat.add_assoc, pwM, pwM_add hm ha i j, matMul_assoc hm (pwM_red hm ha i) (pwM_red hm ha j) ha]; rfl

theorem run_pw {p : PlanM} (hk : planOk p = true) (h1n : p.n = 1) {m : Int} (hm : 2 ≤ m) {a : MatM} (ha : redM m a) : ∀ v : Nat, v < p.n.toNat + p.steps.length →
    (runM (matMul m) p.steps [a])[v]? = some (pwM m a (((expsE p).getD v []).getD 0 0).toNat) := by
  obtain ⟨h1, h2, h3, h4, hf, h6⟩ := planOk_out hk
  refine plan_ind hf (by omega) (fun v => (runM (matMul m) p.steps [a])[v]? = some (pwM m a (((expsE p).getD v []).getD 0 0).toNat)) (fun v hv => ?_) fun k s hs b1 b2 i1 i2 => ?_
  · have hv0 : v = 0 := by omega
    subst hv0
    rw [run_low (by simp), show (expsE p).getD 0 [] = unitRow p.n.toNat 0 by rw [List.getD, exps_low hv]; rfl, h1n]
    show some a = some (pwM m a 1)
    rw [show pwM m a 1 = matMul m ⟨1, 0, 0, 1⟩ a from rfl, (matMul_id hm ha).1]
  · obtain ⟨x, y, g1, g2, g3⟩ := runM_at (F := matMul m) (by omega) p.steps 0 [a] k s hf (by simp; omega) hs
    obtain ⟨z, x', y', e1, e2, e3, l1, l2, l3, hz⟩ := exps_add hk hs
    rw [i1] at g1; cases g1
    rw [i2] at g2; cases g2
    obtain ⟨z1, z2, z3⟩ := hz 0 (by omega)
    rw [show p.n.toNat + k = p.n.toNat + 0 + k by omega, g3, ← e2, ← e3, show p.n.toNat + 0 + k = p.n.toNat + k by omega, ← e1, z1, show (x'.getD 0 0 + y'.getD 0 0).toNat = (x'.getD 0 0).toNat + (y'.getD 0 0).toNat by omega, pwM_add hm ha]

def detM (m : Int) (q : MatM) : Int := ((q.a * q.d - q.b * q.c).tmod m + m).tmod m

theorem detM_e {m : Int} (hm : 2 ≤ m) (q : MatM) : detM m q = (q.a * q.d - q.b * q.c) % m := by
  unfold detM
  generalize q.a * q.d - q.b * q.c = x
  rcases Int.lt_or_le x 0 with hx | hx
  · have h1 : x.tmod m = -((-x) % m) := by
      rw [← tm (show 0 ≤ -x by omega), Int.neg_tmod, Int.neg_neg]
    have h2 := Int.emod_nonneg (-x) (b := m) (by omega)
    have h3 := Int.emod_lt_of_pos (-x) (b := m) (by omega)
    rw [h1, tm (by omega), Int.add_emod_right]
    have e : -(-x % m) = x + m * (-x / m) := by have := Int.emod_add_mul_ediv (-x) m; omega
    rw [e, Int.add_mul_emod_self_left]
  · rw [tm hx, tm (by have := Int.emod_nonneg x (b := m) (by omega); omega), Int.add_emod_right, Int.emod_emod_of_dvd _ (Int.dvd_refl m)]

theorem detM_in {m : Int} (hm : 2 ≤ m) (q : MatM) : inM m (detM m q) := by
  rw [detM_e hm]
  exact ⟨Int.emod_nonneg _ (by omega), by have := Int.emod_lt_of_pos (q.a * q.d - q.b * q.c) (b := m) (by omega); omega⟩

theorem det_id (a b c d w x y z : Int) : (a * w + b * y) * (c * x + d * z) - (a * x + b * z) * (c * w + d * y) = (a * d - b * c) * (w * z - x * y) := by
  simp only [Int.mul_add, Int.add_mul, Int.sub_mul, Int.mul_sub, Int.mul_assoc, Int.mul_comm, Int.mul_left_comm]
  omega

theorem det_mul {m : Int} (hm : 2 ≤ m) {a b : MatM} (ha : redM m a) (hb : redM m b) : detM m (matMul m a b) = mulM m (detM m a) (detM m b) := by
  rw [mulM_e (detM_in hm a).1 (detM_in hm b).1, detM_e hm, detM_e hm, detM_e hm, matMul_e ha hb, ← Int.mul_emod]
  dsimp only
  rw [Int.sub_emod, ← Int.mul_emod, ← Int.mul_emod, ← Int.sub_emod, det_id]

theorem run_det {p : PlanM} (hk : planOk p = true) {m : Int} (hm : 2 ≤ m) {xs : List MatM} (hn : (xs.length : Int) = p.n) (hx : ∀ x ∈ xs, redM m x) : ∀ v : Nat, v < p.n.toNat + p.steps.length →
    ∃ q, (runM (matMul m) p.steps xs)[v]? = some q ∧ redM m q ∧ (runM (mulM m) p.steps (xs.map (detM m)))[v]? = some (detM m q) := by
  obtain ⟨h1, h2, h3, h4, hf, h6⟩ := planOk_out hk
  refine plan_ind hf (by omega) _ (fun v hv => ?_) fun k s hs b1 b2 i1 i2 => ?_
  · have hlt : v < xs.length := by omega
    refine ⟨xs[v], ?_, hx _ (List.getElem_mem hlt), ?_⟩
    · rw [run_low hlt, List.getElem?_eq_getElem hlt]
    · rw [run_low (by simp; omega)]; simp [hlt]
  · obtain ⟨q1, u1, ur, u2⟩ := i1
    obtain ⟨q2, w1, wr, w2⟩ := i2
    obtain ⟨a, b, g1, g2, g3⟩ := runM_at (F := matMul m) (by omega) p.steps 0 xs k s hf (by simpa using hn) hs
    obtain ⟨a', b', k1, k2, k3⟩ := runM_at (F := mulM m) (by omega) p.steps 0 (xs.map (detM m)) k s hf (by simpa using hn) hs
    rw [u1] at g1; cases g1
    rw [w1] at g2; cases g2
    rw [u2] at k1; cases k1
    rw [w2] at k2; cases k2
    exact ⟨_, g3, matMul_red hm ur wr, by rw [det_mul hm ur wr]; exact k3⟩

/-! ### Plans that are drawn -/
theorem stepM_lt {x y k : Int} (hx : 0 ≤ x ∧ x < k) (hy : 0 ≤ y ∧ y < k) : (0 ≤ (stepM x y).1 ∧ (stepM x y).1 < k) ∧ 0 ≤ (stepM x y).2 ∧ (stepM x y).2 < k := by
  unfold stepM
  dsimp only
  refine ⟨⟨?_, ?_⟩, ?_, ?_⟩ <;> (repeat' split) <;> omega

structure PlB (q : PlanM) : Prop where
  n : -1 ≤ q.n ∧ q.n ≤ 100
  ls : q.steps.length ≤ 100
  lo : q.outs.length ≤ 100
  st : ∀ s ∈ q.steps, (-1 ≤ s.1 ∧ s.1 ≤ 1000) ∧ -1 ≤ s.2 ∧ s.2 ≤ 1000
  ot : ∀ v ∈ q.outs, -1000 ≤ v ∧ v ≤ 1000

theorem PlB.sm {q : PlanM} (H : PlB q) : PSm q :=
  ⟨⟨⟨by have := H.n; omega, by have := H.n; omega⟩, fun s hs => by have := H.st s hs; exact ⟨⟨by omega, by omega⟩, by omega, by omega⟩, fun v hv => by have := H.ot v hv; exact ⟨by omega, by omega⟩, by have := H.ls; omega, by have := H.lo; omega⟩, by have := H.ls; omega, by have := H.lo; omega⟩

theorem snoc_all {α : Type} {p : α → Prop} {l : List α} {x : α} (h : ∀ z ∈ l, p z) (hx : p x) : ∀ z ∈ l ++ [x], p z := fun z hz => by
  rcases List.mem_append.1 hz with hz | hz
  · exact h z hz
  · rw [List.mem_singleton.1 hz]; exact hx

theorem loq_selT {h0 h : AH} {L : List It} (H : Loq h0 h L) (k : Nat) (js : List Nat) (hn : js.Nodup) (hk : ∀ j ∈ js, j < k) : Loq h0 h (js.filterMap (L[·]?) ++ L.drop k) :=
  ⟨H.wf0, H.le, H.wf, fun x hx => (List.mem_append.1 hx).elim (fun hx => (H.sel js hn).it x hx) (fun hx => H.it x (List.mem_of_mem_drop hx)),
    List.pairwise_append.2 ⟨(H.sel js hn).ap, H.ap.sublist (List.drop_sublist k L), fun x hx y hy => by
      obtain ⟨j, hj, hjx⟩ := List.mem_filterMap.1 hx
      obtain ⟨i, hi⟩ := List.mem_iff_getElem?.1 hy
      rw [List.getElem?_drop] at hi
      have hjk := hk j hj
      obtain ⟨g1, rfl⟩ := List.getElem?_eq_some_iff.1 hjx
      obtain ⟨g2, rfl⟩ := List.getElem?_eq_some_iff.1 hi
      exact List.pairwise_iff_getElem.1 H.ap j (k + i) g1 g2 (by omega)⟩⟩

theorem curPlan_ac (inputs steps : Int) (hi : 1 ≤ inputs ∧ inputs ≤ 10) (hs : 0 ≤ steps ∧ steps ≤ 20) (bc : Nat) (cv : AV) (l : List Int) (ct sd : Int) (h0 h : AH) (L : List It) (HL : Loq h0 h (.pt bc [cv, .i .i64 ct, .i .u64 sd] :: L)) (hcv : RdG 1 enU h0 cv l) (hb : ∀ x ∈ l, 0 ≤ x ∧ x ≤ 255) (h1 : 0 ≤ ct) (h2 : ct ≤ 549745813888) :
    AC Try.prog 52 [.p bc 0, .i .i64 inputs, .i .i64 steps] h (fun r h' => ∃ M, (∃ (q : PlanM) (ws wo : AV) (ct' sd' : Int), r = .agg [.i .i64 q.n, ws, wo] ∧ (lenA ws = some q.steps.length ∧ ws.sc = true ∧ lenA wo = some q.outs.length ∧ wo.sc = true) ∧ ((1 ≤ q.n ∧ q.n ≤ 10) ∧ q.steps.length ≤ 20 ∧ q.outs.length ≤ 3 ∧ (∀ s ∈ q.steps, (0 ≤ s.1 ∧ s.1 ≤ 100) ∧ 0 ≤ s.2 ∧ s.2 ≤ 100) ∧ ∀ v ∈ q.outs, 0 ≤ v ∧ v ≤ 100) ∧ (ct ≤ ct' ∧ ct' ≤ ct + 300) ∧ M = .sl ws 2 (q.steps.flatMap enStep) :: .sl wo 1 (q.outs.flatMap enI) :: .pt bc [cv, .i .i64 ct', .i .u64 sd'] :: L) ∧ Loq h0 h' M) := by
  refine e52 _ _ _ fun wf => ?_
  unfold c52
  refine LI_startL HL ?_
  refine W ?_
  refine LS_al rfl fun b6 => ?_
  try (dsimp only [st, setL, AV.cells, List.set_cons_zero, List.set_cons_succ, List.drop_zero, List.drop_succ_cons, List.take_zero, List.take_succ_cons, Nat.zero_add, Nat.add_zero, Nat.reduceAdd, List.cons_append, List.nil_append, List.eraseIdx_cons_zero, List.eraseIdx_cons_succ])
  refine W ?_
  refine LS_rot 1 rfl ?_
  refine LS_cm (.refl _) (fun h' HL wf => pick_ac inputs _ _ _ _ _ _ h' _ HL  hcv hb (by omega) (by omega)) rfl rfl ?_
  rintro _ _ ⟨n0, ct1, sd1, rfl, hn0, hct1, rfl⟩
  try (dsimp only [st, setL, AV.cells, List.set_cons_zero, List.set_cons_succ, List.drop_zero, List.drop_succ_cons, List.take_zero, List.take_succ_cons, Nat.zero_add, Nat.add_zero, Nat.reduceAdd, List.cons_append, List.nil_append, List.eraseIdx_cons_zero, List.eraseIdx_cons_succ])
  refine W ?_
  refine LS_al rfl fun b7 => ?_
  try (dsimp only [st, setL, AV.cells, List.set_cons_zero, List.set_cons_succ, List.drop_zero, List.drop_succ_cons, List.take_zero, List.take_succ_cons, Nat.zero_add, Nat.add_zero, Nat.reduceAdd, List.cons_append, List.nil_append, List.eraseIdx_cons_zero, List.eraseIdx_cons_succ])
  refine W ?_
  refine LS_rot 1 rfl ?_
  refine LS_cm (.refl _) (fun h' HL wf => pick_ac (steps + 1) _ _ _ _ _ _ h' _ HL  hcv hb (by omega) (by omega)) rfl rfl ?_
  rintro _ _ ⟨k0, ct2, sd2, rfl, hk0, hct2, rfl⟩
  try (dsimp only [st, setL, AV.cells, List.set_cons_zero, List.set_cons_succ, List.drop_zero, List.drop_succ_cons, List.take_zero, List.take_succ_cons, Nat.zero_add, Nat.add_zero, Nat.reduceAdd, List.cons_append, List.nil_append, List.eraseIdx_cons_zero, List.eraseIdx_cons_succ])
  refine W ?_
  refine LIL_nl (k := 2) (LIL_rot 2 rfl (LIL_rot 2 rfl ?_))
  refine LIL_ind (fun k a M => ∃ (i : Int) (u : AV) (ss : List (Int × Int)) (ct' sd' : Int), (∃ r : Nat → AV, a = [.p bc 0, r 1, r 2, r 3, r 4, r 5, .p b6 0, .p b7 0, .i .i64 i, r 9, r 10, r 11, r 12, r 13, r 14, r 15, r 16, r 17, r 18, r 19, r 20, r 21, r 22, r 23, r 24, r 25, r 26, r 27, r 28, r 29, r 30, r 31, r 32, r 33, r 34, r 35, r 36, r 37, r 38, r 39, r 40, r 41, r 42, r 43, r 44, r 45, r 46, r 47, r 48, r 49, r 50, r 51, r 52, r 53, r 54, r 55, r 56, r 57, r 58, r 59, r 60, r 61, r 62, r 63, r 64, r 65, r 66, r 67, r 68, r 69, r 70, r 71, r 72, r 73, r 74, r 75, r 76, r 77]) ∧ M = .pt bc [cv, .i .i64 ct', .i .u64 sd'] :: .pt b7 [.i .i64 (1 + n0), u, .ns] :: .sl u 2 (ss.flatMap enStep) :: .pt b6 [.i .i64 0, .ns, .ns] :: L ∧ i = k ∧ ss.length + k ≤ 20 ∧ (∀ s ∈ ss, (0 ≤ s.1 ∧ s.1 ≤ 100) ∧ 0 ≤ s.2 ∧ s.2 ≤ 100) ∧ ct ≤ ct' ∧ ct' + 6 * k ≤ ct + 200 ∧ lenA u = some ss.length ∧ u.sc = true)
    k0.toNat ⟨k0, .ns, [], ct2, sd2, exJ rfl, rfl, by omega, by simp; omega, by simp, by omega, by omega, rfl, rfl⟩ ?_
  rintro k a M ⟨i, u, ss, ct3, sd3, ⟨r, rfl⟩, rfl, rfl, hsl, hsb, hc1, hc2, lu, su⟩ IH
  refine W ?_
  (first | refine LS_gt rfl ?_ ?_ | refine LS_gf rfl ?_ ?_ | refine LI_cond rfl ?_ ?_) <;> intro hc <;> have hc' := hc <;> try simp only [decide_eq_true_eq, decide_eq_false_iff_not, Bool.not_eq_true', Bool.not_eq_false', Bool.not_eq_true, Bool.not_eq_false, beq_iff_eq, bne_iff_ne, beq_eq_false_iff_ne, bne_eq_false_iff_eq, Int.not_lt, Int.not_le, ge_iff_le, gt_iff_lt, not_and, ne_eq, Decidable.not_not] at hc'
  all_goals (try (dsimp only [st, setL, AV.cells, List.set_cons_zero, List.set_cons_succ, List.drop_zero, List.drop_succ_cons, List.take_zero, List.take_succ_cons, Nat.zero_add, Nat.add_zero, Nat.reduceAdd, List.cons_append, List.nil_append, List.eraseIdx_cons_zero, List.eraseIdx_cons_succ]))
  all_goals (refine W ?_)
  · refine LS_cm (.refl _) (fun h' HL wf => pick_ac (1 + n0 + ss.length) _ _ _ _ _ _ h' _ HL  hcv hb (by omega) (by omega)) rfl rfl ?_
    rintro _ _ ⟨x, ct4, sd4, rfl, hx, hct4, rfl⟩
    try (dsimp only [st, setL, AV.cells, List.set_cons_zero, List.set_cons_succ, List.drop_zero, List.drop_succ_cons, List.take_zero, List.take_succ_cons, Nat.zero_add, Nat.add_zero, Nat.reduceAdd, List.cons_append, List.nil_append, List.eraseIdx_cons_zero, List.eraseIdx_cons_succ])
    refine W ?_
    refine LS_cm (.refl _) (fun h' HL wf => one_ac 2 _ _ _ _ _ _ h' _ HL  hcv hb (by omega) (by omega)) rfl rfl ?_
    rintro _ _ ⟨y, ct5, sd5, rfl, hy, hct5, rfl⟩
    try (dsimp only [st, setL, AV.cells, List.set_cons_zero, List.set_cons_succ, List.drop_zero, List.drop_succ_cons, List.take_zero, List.take_succ_cons, Nat.zero_add, Nat.add_zero, Nat.reduceAdd, List.cons_append, List.nil_append, List.eraseIdx_cons_zero, List.eraseIdx_cons_succ])
    refine W ?_
    refine LI_post (fun a M => ∃ (z : Int), (∃ r : Nat → AV, a = [.p bc 0, r 1, r 2, r 3, r 4, r 5, .p b6 0, .p b7 0, .i .i64 k, .i .i64 (1 + n0 + ss.length), .i .i64 z, r 11, r 12, r 13, r 14, r 15, r 16, r 17, r 18, r 19, r 20, r 21, r 22, r 23, r 24, r 25, r 26, r 27, r 28, r 29, r 30, r 31, r 32, r 33, r 34, r 35, r 36, r 37, r 38, r 39, r 40, r 41, r 42, r 43, r 44, r 45, r 46, r 47, r 48, r 49, r 50, r 51, r 52, r 53, r 54, r 55, r 56, r 57, r 58, r 59, r 60, r 61, r 62, r 63, r 64, r 65, r 66, r 67, r 68, r 69, r 70, r 71, r 72, r 73, r 74, r 75, r 76, r 77]) ∧ M = .pt bc [cv, .i .i64 ct5, .i .u64 sd5] :: .pt b7 [.i .i64 (1 + n0), u, .ns] :: .sl u 2 (ss.flatMap enStep) :: .pt b6 [.i .i64 0, .ns, .ns] :: L ∧ 0 ≤ z ∧ z < 1 + n0 + ss.length) ?_ ?_
    · cases y
      · first | (refine LS_gtnH rfl (rfl) ?_; intro hg; try (dsimp only [st, setL, AV.cells, List.set_cons_zero, List.set_cons_succ, List.drop_zero, List.drop_succ_cons, List.take_zero, List.take_succ_cons, Nat.zero_add, Nat.add_zero, Nat.reduceAdd, List.cons_append, List.nil_append, List.eraseIdx_cons_zero, List.eraseIdx_cons_succ])) | (refine LS_gfnH rfl (rfl) ?_; intro hg; try (dsimp only [st, setL, AV.cells, List.set_cons_zero, List.set_cons_succ, List.drop_zero, List.drop_succ_cons, List.take_zero, List.take_succ_cons, Nat.zero_add, Nat.add_zero, Nat.reduceAdd, List.cons_append, List.nil_append, List.eraseIdx_cons_zero, List.eraseIdx_cons_succ])) | (refine LI_cond_fH rfl (rfl) ?_; intro hg)
        refine W ?_
        exact ⟨rfl, _, exJ rfl, rfl, by omega, by omega⟩
      · first | (refine LS_gyH rfl (rfl) ?_; intro hg) | (refine LI_cond_tH rfl (rfl) ?_; intro hg)
        refine W ?_
        exact ⟨rfl, _, exJ rfl, rfl, by omega, by omega⟩
    · rintro _ _ ⟨z, ⟨r, rfl⟩, rfl, hz0, hz1⟩
      refine LThen_n ?_
      refine W ?_
      refine db52_0 [] (by simp) ?_
      refine WX ?_
      repeat' (first | (refine LX_two ?_ ?_ <;> refine WX ?_) | (refine LX_l1e 1 noG rfl rfl rfl ?_; try (dsimp only [st, setL, AV.cells, List.set_cons_zero, List.set_cons_succ, List.drop_zero, List.drop_succ_cons, List.take_zero, List.take_succ_cons, Nat.zero_add, Nat.add_zero, Nat.reduceAdd, List.cons_append, List.nil_append, List.eraseIdx_cons_zero, List.eraseIdx_cons_succ]); refine WX ?_) | (refine LX_l1e 2 noG rfl rfl rfl ?_; try (dsimp only [st, setL, AV.cells, List.set_cons_zero, List.set_cons_succ, List.drop_zero, List.drop_succ_cons, List.take_zero, List.take_succ_cons, Nat.zero_add, Nat.add_zero, Nat.reduceAdd, List.cons_append, List.nil_append, List.eraseIdx_cons_zero, List.eraseIdx_cons_succ]); refine WX ?_) | (refine LX_f noG (LO_cm (.refl _) (fun h' HL wf => pick_ac (1 + n0 + ss.length) _ _ _ _ _ _ h' _ HL  hcv hb (by omega) (by omega)) rfl rfl ?_); rintro _ _ ⟨w, ct6, sd6, rfl, hw, hct6, rfl⟩; try (dsimp only [st, setL, AV.cells, List.set_cons_zero, List.set_cons_succ, List.drop_zero, List.drop_succ_cons, List.take_zero, List.take_succ_cons, Nat.zero_add, Nat.add_zero, Nat.reduceAdd, List.cons_append, List.nil_append, List.eraseIdx_cons_zero, List.eraseIdx_cons_succ]); refine WX ?_) | (refine LX_f noG (LO_c0 (fun h' HL wf => plStep_ac z w h') rfl rfl ?_); try (dsimp only [st, setL, AV.cells, List.set_cons_zero, List.set_cons_succ, List.drop_zero, List.drop_succ_cons, List.take_zero, List.take_succ_cons, Nat.zero_add, Nat.add_zero, Nat.reduceAdd, List.cons_append, List.nil_append, List.eraseIdx_cons_zero, List.eraseIdx_cons_succ]); refine WX ?_) | (refine LX_f noG (LO_lt [stepM z w] rfl rfl (by decide) rfl rfl rfl rfl enStep2 rfl rfl fun lit llit slit => ?_); try (dsimp only [st, setL, AV.cells, List.set_cons_zero, List.set_cons_succ, List.drop_zero, List.drop_succ_cons, List.take_zero, List.take_succ_cons, Nat.zero_add, Nat.add_zero, Nat.reduceAdd, List.cons_append, List.nil_append, List.eraseIdx_cons_zero, List.eraseIdx_cons_succ]); refine WX ?_) | (refine LX_f noG (LO_ap 3 rfl (fun h' HL => HL.rdI 0 rfl enStep2 (by decide)) enStep2 (by decide) (by simp) (by simp; omega) (by simp; omega) rfl rfl rfl fun u2 lu2 su2 => ?_); try (dsimp only [st, setL, AV.cells, List.set_cons_zero, List.set_cons_succ, List.drop_zero, List.drop_succ_cons, List.take_zero, List.take_succ_cons, Nat.zero_add, Nat.add_zero, Nat.reduceAdd, List.cons_append, List.nil_append, List.eraseIdx_cons_zero, List.eraseIdx_cons_succ]); refine WX ?_))
      all_goals
        have hst := stepM_lt (k := 1 + n0 + ss.length) ⟨hz0, hz1⟩ ⟨hw.1, by omega⟩
        refine W ?_
        refine LIL_drop 1 ?_
        refine IH (k - 1) _ _ (by omega) ⟨(k : Int) - 1, u2, ss ++ [stepM z w], ct6, sd6, exJ rfl, rfl, by omega, by simp; omega, snoc_all hsb ⟨⟨by omega, by omega⟩, by omega, by omega⟩, by omega, by omega, lu2, su2⟩
  · clear IH
    have hk : k = 0 := by omega
    subst hk
    refine LS_cm (.refl _) (fun h' HL wf => pick_ac 3 _ _ _ _ _ _ h' _ HL  hcv hb (by omega) (by omega)) rfl rfl ?_
    rintro _ _ ⟨x, ct4, sd4, rfl, hx, hct4, rfl⟩
    try (dsimp only [st, setL, AV.cells, List.set_cons_zero, List.set_cons_succ, List.drop_zero, List.drop_succ_cons, List.take_zero, List.take_succ_cons, Nat.zero_add, Nat.add_zero, Nat.reduceAdd, List.cons_append, List.nil_append, List.eraseIdx_cons_zero, List.eraseIdx_cons_succ])
    refine W ?_
    refine LIL_nl (k := 1) (LIL_rot 2 rfl (LIL_rot 2 rfl ?_))
    refine LIL_ind (fun k a M => ∃ (i : Int) (z : AV) (os : List Int) (ct' sd' : Int), (∃ r : Nat → AV, a = [.p bc 0, r 1, r 2, r 3, r 4, r 5, .p b6 0, .p b7 0, r 8, r 9, r 10, .i .i64 (1 + n0 + ss.length), .i .i64 i, r 13, r 14, r 15, r 16, r 17, r 18, r 19, r 20, r 21, r 22, r 23, r 24, r 25, r 26, r 27, r 28, r 29, r 30, r 31, r 32, r 33, r 34, r 35, r 36, r 37, r 38, r 39, r 40, r 41, r 42, r 43, r 44, r 45, r 46, r 47, r 48, r 49, r 50, r 51, r 52, r 53, r 54, r 55, r 56, r 57, r 58, r 59, r 60, r 61, r 62, r 63, r 64, r 65, r 66, r 67, r 68, r 69, r 70, r 71, r 72, r 73, r 74, r 75, r 76, r 77]) ∧ M = .pt bc [cv, .i .i64 ct', .i .u64 sd'] :: .pt b7 [.i .i64 (1 + n0), u, z] :: .sl z 1 (os.flatMap enI) :: .sl u 2 (ss.flatMap enStep) :: .pt b6 [.i .i64 0, .ns, .ns] :: L ∧ i = k ∧ os.length + k ≤ 3 ∧ (∀ v ∈ os, 0 ≤ v ∧ v ≤ 100) ∧ ct ≤ ct' ∧ ct' + 2 * k ≤ ct + 210 ∧ lenA z = some os.length ∧ z.sc = true)
      (1 + x).toNat ⟨1 + x, .ns, [], ct4, sd4, exJ rfl, rfl, by omega, by simp; omega, by simp, by omega, by omega, rfl, rfl⟩ ?_
    rintro k a M ⟨i, z, os, ct5, sd5, ⟨r, rfl⟩, rfl, rfl, hol, hob, hc3, hc4, lz, sz⟩ IH
    refine W ?_
    (first | refine LS_gt rfl ?_ ?_ | refine LS_gf rfl ?_ ?_ | refine LI_cond rfl ?_ ?_) <;> intro hc <;> have hc' := hc <;> try simp only [decide_eq_true_eq, decide_eq_false_iff_not, Bool.not_eq_true', Bool.not_eq_false', Bool.not_eq_true, Bool.not_eq_false, beq_iff_eq, bne_iff_ne, beq_eq_false_iff_ne, bne_eq_false_iff_eq, Int.not_lt, Int.not_le, ge_iff_le, gt_iff_lt, not_and, ne_eq, Decidable.not_not] at hc'
    all_goals (try (dsimp only [st, setL, AV.cells, List.set_cons_zero, List.set_cons_succ, List.drop_zero, List.drop_succ_cons, List.take_zero, List.take_succ_cons, Nat.zero_add, Nat.add_zero, Nat.reduceAdd, List.cons_append, List.nil_append, List.eraseIdx_cons_zero, List.eraseIdx_cons_succ]))
    all_goals (refine W ?_)
    · obtain ⟨le4, hle4⟩ : ∃ q : Int, (if 1 + n0 + (ss.length : Int) < 4 then 1 + n0 + (ss.length : Int) else 4) = q := ⟨_, rfl⟩
      have hle5 : le4 ≤ 4 ∧ le4 ≤ 1 + n0 + ss.length := by rw [← hle4]; split <;> omega
      have hcp := fun (h' : AH) => l1Least_ac (1 + n0 + ss.length) 4 h'
      rw [hle4] at hcp
      refine db52_1 [] (by simp) ?_
      refine WX ?_
      repeat' (first | (refine LX_two ?_ ?_ <;> refine WX ?_) | (refine LX_l1e 1 noG rfl rfl rfl ?_; try (dsimp only [st, setL, AV.cells, List.set_cons_zero, List.set_cons_succ, List.drop_zero, List.drop_succ_cons, List.take_zero, List.take_succ_cons, Nat.zero_add, Nat.add_zero, Nat.reduceAdd, List.cons_append, List.nil_append, List.eraseIdx_cons_zero, List.eraseIdx_cons_succ]); refine WX ?_) | (refine LX_l1e 2 noG rfl rfl rfl ?_; try (dsimp only [st, setL, AV.cells, List.set_cons_zero, List.set_cons_succ, List.drop_zero, List.drop_succ_cons, List.take_zero, List.take_succ_cons, Nat.zero_add, Nat.add_zero, Nat.reduceAdd, List.cons_append, List.nil_append, List.eraseIdx_cons_zero, List.eraseIdx_cons_succ]); refine WX ?_) | (refine LX_f noG (LO_c0 (fun h' HL wf => hcp h') rfl rfl ?_); try (dsimp only [st, setL, AV.cells, List.set_cons_zero, List.set_cons_succ, List.drop_zero, List.drop_succ_cons, List.take_zero, List.take_succ_cons, Nat.zero_add, Nat.add_zero, Nat.reduceAdd, List.cons_append, List.nil_append, List.eraseIdx_cons_zero, List.eraseIdx_cons_succ]); refine WX ?_) | (refine LX_f noG (LO_cm (.refl _) (fun h' HL wf => pick_ac le4 _ _ _ _ _ _ h' _ HL  hcv hb (by omega) (by omega)) rfl rfl ?_); rintro _ _ ⟨w, ct6, sd6, rfl, hw, hct6, rfl⟩; try (dsimp only [st, setL, AV.cells, List.set_cons_zero, List.set_cons_succ, List.drop_zero, List.drop_succ_cons, List.take_zero, List.take_succ_cons, Nat.zero_add, Nat.add_zero, Nat.reduceAdd, List.cons_append, List.nil_append, List.eraseIdx_cons_zero, List.eraseIdx_cons_succ]); refine WX ?_) | (refine LX_f noG (LO_lt [1 + n0 + (ss.length : Int) - 1 - w] rfl rfl (by decide) rfl rfl rfl rfl enI1 rfl rfl fun lit llit slit => ?_); try (dsimp only [st, setL, AV.cells, List.set_cons_zero, List.set_cons_succ, List.drop_zero, List.drop_succ_cons, List.take_zero, List.take_succ_cons, Nat.zero_add, Nat.add_zero, Nat.reduceAdd, List.cons_append, List.nil_append, List.eraseIdx_cons_zero, List.eraseIdx_cons_succ]); refine WX ?_) | (refine LX_f noG (LO_ap 3 rfl (fun h' HL => HL.rdI 0 rfl enI1 (by decide)) enI1 (by decide) (by simp) (by simp; omega) (by simp; omega) rfl rfl rfl fun z2 lz2 sz2 => ?_); try (dsimp only [st, setL, AV.cells, List.set_cons_zero, List.set_cons_succ, List.drop_zero, List.drop_succ_cons, List.take_zero, List.take_succ_cons, Nat.zero_add, Nat.add_zero, Nat.reduceAdd, List.cons_append, List.nil_append, List.eraseIdx_cons_zero, List.eraseIdx_cons_succ]); refine WX ?_))
      all_goals
        refine W ?_
        refine LIL_drop 1 ?_
        refine IH (k - 1) _ _ (by omega) ⟨(k : Int) - 1, z2, os ++ [1 + n0 + (ss.length : Int) - 1 - w], ct6, sd6, exJ rfl, rfl, by omega, by simp; omega, snoc_all hob ⟨by omega, by omega⟩, by omega, by omega, lz2, sz2⟩
    · refine LS_cm (.refl _) (fun h' HL wf => one_ac 12 _ _ _ _ _ _ h' _ HL  hcv hb (by omega) (by omega)) rfl rfl ?_
      rintro _ _ ⟨y, ct6, sd6, rfl, hy, hct6, rfl⟩
      try (dsimp only [st, setL, AV.cells, List.set_cons_zero, List.set_cons_succ, List.drop_zero, List.drop_succ_cons, List.take_zero, List.take_succ_cons, Nat.zero_add, Nat.add_zero, Nat.reduceAdd, List.cons_append, List.nil_append, List.eraseIdx_cons_zero, List.eraseIdx_cons_succ])
      refine W ?_
      cases y
      · first | (refine LS_gtnH rfl (rfl) ?_; intro hg; try (dsimp only [st, setL, AV.cells, List.set_cons_zero, List.set_cons_succ, List.drop_zero, List.drop_succ_cons, List.take_zero, List.take_succ_cons, Nat.zero_add, Nat.add_zero, Nat.reduceAdd, List.cons_append, List.nil_append, List.eraseIdx_cons_zero, List.eraseIdx_cons_succ])) | (refine LS_gfnH rfl (rfl) ?_; intro hg; try (dsimp only [st, setL, AV.cells, List.set_cons_zero, List.set_cons_succ, List.drop_zero, List.drop_succ_cons, List.take_zero, List.take_succ_cons, Nat.zero_add, Nat.add_zero, Nat.reduceAdd, List.cons_append, List.nil_append, List.eraseIdx_cons_zero, List.eraseIdx_cons_succ])) | (refine LI_cond_fH rfl (rfl) ?_; intro hg)
        refine W ?_
        refine RET fun h' HL => ?_
        try dsimp only [oneA]
        exact ⟨_, ⟨⟨1 + n0, ss, os⟩, u, z, ct6, sd6, rfl, ⟨lu, su, lz, sz⟩, ⟨⟨by show 1 ≤ 1 + n0; omega, by show 1 + n0 ≤ 10; omega⟩, by show ss.length ≤ 20; omega, by show os.length ≤ 3; omega, hsb, hob⟩, by omega, rfl⟩, loq_selT HL 5 [3, 2, 0] (by decide) (by decide)⟩
      · first | (refine LS_gyH rfl (rfl) ?_; intro hg) | (refine LI_cond_tH rfl (rfl) ?_; intro hg)
        refine W ?_
        refine RET fun h' HL => ?_
        try dsimp only [oneA]
        exact ⟨_, ⟨⟨1 + n0, ss, []⟩, u, .ns, ct6, sd6, rfl, ⟨lu, su, rfl, rfl⟩, ⟨⟨by show 1 ≤ 1 + n0; omega, by show 1 + n0 ≤ 10; omega⟩, by show ss.length ≤ 20; omega, by simp, hsb, by simp⟩, by omega, rfl⟩, (loq_ns (loq_selT HL 5 [3, 0] (by decide) (by decide)) 1).swap⟩

/-! ### Plans, or something near -/
theorem anyPlan_ac (inputs steps : Int) (hi : 1 ≤ inputs ∧ inputs ≤ 10) (hs : 0 ≤ steps ∧ steps ≤ 20) (bc : Nat) (cv : AV) (l : List Int) (ct sd : Int) (h0 h : AH) (L : List It) (HL : Loq h0 h (.pt bc [cv, .i .i64 ct, .i .u64 sd] :: L)) (hcv : RdG 1 enU h0 cv l) (hb : ∀ x ∈ l, 0 ≤ x ∧ x ≤ 255) (h1 : 0 ≤ ct) (h2 : ct ≤ 549735813888) :
    AC Try.prog 17 [.p bc 0, .i .i64 inputs, .i .i64 steps] h (fun r h' => ∃ M, (∃ (q : PlanM) (ws wo : AV) (ct' sd' : Int), r = .agg [.i .i64 q.n, ws, wo] ∧ (lenA ws = some q.steps.length ∧ ws.sc = true ∧ lenA wo = some q.outs.length ∧ wo.sc = true) ∧ PlB q ∧ (ct ≤ ct' ∧ ct' ≤ ct + 500) ∧ M = .sl ws 2 (q.steps.flatMap enStep) :: .sl wo 1 (q.outs.flatMap enI) :: .pt bc [cv, .i .i64 ct', .i .u64 sd'] :: L) ∧ Loq h0 h' M) := by
  refine e17 _ _ _ fun wf => ?_
  unfold c17
  refine LI_startL HL ?_
  refine W ?_
  refine LS_al rfl fun b6 => ?_
  try (dsimp only [st, setL, AV.cells, List.set_cons_zero, List.set_cons_succ, List.drop_zero, List.drop_succ_cons, List.take_zero, List.take_succ_cons, Nat.zero_add, Nat.add_zero, Nat.reduceAdd, List.cons_append, List.nil_append, List.eraseIdx_cons_zero, List.eraseIdx_cons_succ])
  refine W ?_
  refine LS_rot 1 rfl ?_
  refine LS_cm (.refl _) (fun h' HL wf => curPlan_ac inputs steps hi hs _ _ _ _ _ _ h' _ HL hcv hb (by omega) (by omega)) rfl rfl ?_
  rintro _ _ ⟨⟨n, ss, os⟩, ws, wo, ct1, sd1, rfl, ⟨lw, sw, lo, so⟩, hB, hct1, rfl⟩
  dsimp only at lw lo hB
  obtain ⟨hn, hsl, hol, hsb, hob⟩ := hB
  try (dsimp only [st, setL, AV.cells, List.set_cons_zero, List.set_cons_succ, List.drop_zero, List.drop_succ_cons, List.take_zero, List.take_succ_cons, Nat.zero_add, Nat.add_zero, Nat.reduceAdd, List.cons_append, List.nil_append, List.eraseIdx_cons_zero, List.eraseIdx_cons_succ])
  refine W ?_
  refine LS_al rfl fun b7 => ?_
  try (dsimp only [st, setL, AV.cells, List.set_cons_zero, List.set_cons_succ, List.drop_zero, List.drop_succ_cons, List.take_zero, List.take_succ_cons, Nat.zero_add, Nat.add_zero, Nat.reduceAdd, List.cons_append, List.nil_append, List.eraseIdx_cons_zero, List.eraseIdx_cons_succ])
  refine W ?_
  refine LS_rot 3 rfl ?_
  refine LS_cm (.refl _) (fun h' HL wf => pick_ac 16 _ _ _ _ _ _ h' _ HL  hcv hb (by omega) (by omega)) rfl rfl ?_
  rintro _ _ ⟨x, ct2, sd2, rfl, hx, hct2, rfl⟩
  try (dsimp only [st, setL, AV.cells, List.set_cons_zero, List.set_cons_succ, List.drop_zero, List.drop_succ_cons, List.take_zero, List.take_succ_cons, Nat.zero_add, Nat.add_zero, Nat.reduceAdd, List.cons_append, List.nil_append, List.eraseIdx_cons_zero, List.eraseIdx_cons_succ])
  refine W ?_
  obtain ⟨ss0, hss0⟩ : ∃ q, ss = q := ⟨_, rfl⟩
  have hsb' : ∀ s ∈ ss, (-1 ≤ s.1 ∧ s.1 ≤ 1000) ∧ -1 ≤ s.2 ∧ s.2 ≤ 1000 := fun s hs => by have := hsb s hs; omega
  have hob' : ∀ v ∈ os, -1000 ≤ v ∧ v ≤ 1000 := fun v hv => by have := hob v hv; omega
  (first | refine LS_gt rfl ?_ ?_ | refine LS_gf rfl ?_ ?_ | refine LI_cond rfl ?_ ?_) <;> intro hc <;> have hc' := hc <;> try simp only [decide_eq_true_eq, decide_eq_false_iff_not, Bool.not_eq_true', Bool.not_eq_false', Bool.not_eq_true, Bool.not_eq_false, beq_iff_eq, bne_iff_ne, beq_eq_false_iff_ne, bne_eq_false_iff_eq, Int.not_lt, Int.not_le, ge_iff_le, gt_iff_lt, not_and, ne_eq, Decidable.not_not] at hc'
  all_goals (try (dsimp only [st, setL, AV.cells, List.set_cons_zero, List.set_cons_succ, List.drop_zero, List.drop_succ_cons, List.take_zero, List.take_succ_cons, Nat.zero_add, Nat.add_zero, Nat.reduceAdd, List.cons_append, List.nil_append, List.eraseIdx_cons_zero, List.eraseIdx_cons_succ]))
  all_goals (refine W ?_)
  · refine LS_lt [-1, 0, 1, 6, 7] rfl rfl (by decide) rfl rfl rfl rfl enI1 rfl rfl fun w lw1 sw1 => ?_
    try (dsimp only [st, setL, AV.cells, List.set_cons_zero, List.set_cons_succ, List.drop_zero, List.drop_succ_cons, List.take_zero, List.take_succ_cons, Nat.zero_add, Nat.add_zero, Nat.reduceAdd, List.cons_append, List.nil_append, List.eraseIdx_cons_zero, List.eraseIdx_cons_succ])
    refine W ?_
    refine LS_rot 1 rfl ?_
    refine LS_cm (.refl _) (fun h' HL wf => among_ac [-1, 0, 1, 6, 7] w _ _ _ _ _ _ h' _ HL (fun h' HL => HL.rdI 0 rfl enI1 (by decide)) (by decide) hcv hb (by omega) (by omega)) rfl rfl ?_
    rintro _ _ ⟨y, ct3, sd3, rfl, hy, hct3, rfl⟩
    try (dsimp only [st, setL, AV.cells, List.set_cons_zero, List.set_cons_succ, List.drop_zero, List.drop_succ_cons, List.take_zero, List.take_succ_cons, Nat.zero_add, Nat.add_zero, Nat.reduceAdd, List.cons_append, List.nil_append, List.eraseIdx_cons_zero, List.eraseIdx_cons_succ])
    refine W ?_
    have hy' : y = -1 ∨ y = 0 ∨ y = 1 ∨ y = 6 ∨ y = 7 := by simpa using hy
    refine RET fun h' HL => ?_
    try dsimp only [oneA]
    exact ⟨_, ⟨⟨y, ss, os⟩, ws, wo, ct3, sd3, rfl, ⟨lw, sw, lo, so⟩, ⟨by show -1 ≤ y ∧ y ≤ 100; omega, by show ss.length ≤ 100; omega, by show os.length ≤ 100; omega, hsb', hob'⟩, by omega, rfl⟩, loq_selT HL 6 [3, 4, 0] (by decide) (by decide)⟩
  · (first | refine LS_gt rfl ?_ ?_ | refine LS_gf rfl ?_ ?_ | refine LI_cond rfl ?_ ?_) <;> intro hc <;> have hc' := hc <;> try simp only [decide_eq_true_eq, decide_eq_false_iff_not, Bool.not_eq_true', Bool.not_eq_false', Bool.not_eq_true, Bool.not_eq_false, beq_iff_eq, bne_iff_ne, beq_eq_false_iff_ne, bne_eq_false_iff_eq, Int.not_lt, Int.not_le, ge_iff_le, gt_iff_lt, not_and, ne_eq, Decidable.not_not] at hc'
    all_goals (try (dsimp only [st, setL, AV.cells, List.set_cons_zero, List.set_cons_succ, List.drop_zero, List.drop_succ_cons, List.take_zero, List.take_succ_cons, Nat.zero_add, Nat.add_zero, Nat.reduceAdd, List.cons_append, List.nil_append, List.eraseIdx_cons_zero, List.eraseIdx_cons_succ]))
    all_goals (refine W ?_)
    · (first | refine LS_gt rfl ?_ ?_ | refine LS_gf rfl ?_ ?_ | refine LI_cond rfl ?_ ?_) <;> intro hc <;> have hc' := hc <;> try simp only [decide_eq_true_eq, decide_eq_false_iff_not, Bool.not_eq_true', Bool.not_eq_false', Bool.not_eq_true, Bool.not_eq_false, beq_iff_eq, bne_iff_ne, beq_eq_false_iff_ne, bne_eq_false_iff_eq, Int.not_lt, Int.not_le, ge_iff_le, gt_iff_lt, not_and, ne_eq, Decidable.not_not] at hc'
      all_goals (try (dsimp only [st, setL, AV.cells, List.set_cons_zero, List.set_cons_succ, List.drop_zero, List.drop_succ_cons, List.take_zero, List.take_succ_cons, Nat.zero_add, Nat.add_zero, Nat.reduceAdd, List.cons_append, List.nil_append, List.eraseIdx_cons_zero, List.eraseIdx_cons_succ]))
      all_goals (refine W ?_)
      · obtain ⟨b, o, c, rfl⟩ := sl_of lw (by omega)
        refine db17_0 [] (by simp) ?_
        refine WX ?_
        repeat' (first | (refine LX_two ?_ ?_ <;> refine WX ?_) | (refine LX_l1e 1 noG rfl rfl rfl ?_; try (dsimp only [st, setL, AV.cells, List.set_cons_zero, List.set_cons_succ, List.drop_zero, List.drop_succ_cons, List.take_zero, List.take_succ_cons, Nat.zero_add, Nat.add_zero, Nat.reduceAdd, List.cons_append, List.nil_append, List.eraseIdx_cons_zero, List.eraseIdx_cons_succ]); refine WX ?_) | (refine LX_f noG (LO_cm (.refl _) (fun h' HL wf => pick_ac ss.length _ _ _ _ _ _ h' _ HL  hcv hb (by omega) (by omega)) rfl rfl ?_); rintro _ _ ⟨p1, ct3, sd3, rfl, hp1, hct3, rfl⟩; try (dsimp only [st, setL, AV.cells, List.set_cons_zero, List.set_cons_succ, List.drop_zero, List.drop_succ_cons, List.take_zero, List.take_succ_cons, Nat.zero_add, Nat.add_zero, Nat.reduceAdd, List.cons_append, List.nil_append, List.eraseIdx_cons_zero, List.eraseIdx_cons_succ]); refine WX ?_) | (refine LX_f noG (LO_cm (.refl _) (fun h' HL wf => pick_ac 5 _ _ _ _ _ _ h' _ HL  hcv hb (by omega) (by omega)) rfl rfl ?_); rintro _ _ ⟨p2, ct4, sd4, rfl, hp2, hct4, rfl⟩; try (dsimp only [st, setL, AV.cells, List.set_cons_zero, List.set_cons_succ, List.drop_zero, List.drop_succ_cons, List.take_zero, List.take_succ_cons, Nat.zero_add, Nat.add_zero, Nat.reduceAdd, List.cons_append, List.nil_append, List.eraseIdx_cons_zero, List.eraseIdx_cons_succ]); refine WX ?_) | (refine LX_f noG (LO_cm (.refl _) (fun h' HL wf => pick_ac 8 _ _ _ _ _ _ h' _ HL  hcv hb (by omega) (by omega)) rfl rfl ?_); rintro _ _ ⟨p3, ct5, sd5, rfl, hp3, hct5, rfl⟩; try (dsimp only [st, setL, AV.cells, List.set_cons_zero, List.set_cons_succ, List.drop_zero, List.drop_succ_cons, List.take_zero, List.take_succ_cons, Nat.zero_add, Nat.add_zero, Nat.reduceAdd, List.cons_append, List.nil_append, List.eraseIdx_cons_zero, List.eraseIdx_cons_succ]); refine WX ?_) | (refine LX_is hp1.1 (by omega) rfl rfl noG ?_; try (dsimp only [st, setL, AV.cells, List.set_cons_zero, List.set_cons_succ, List.drop_zero, List.drop_succ_cons, List.take_zero, List.take_succ_cons, Nat.zero_add, Nat.add_zero, Nat.reduceAdd, List.cons_append, List.nil_append, List.eraseIdx_cons_zero, List.eraseIdx_cons_succ]); refine WX ?_) | (refine LX_f noG (LO_ss (p2 - 1, p3) 2 p1.toNat rfl (by omega) rfl rfl enStep2 (by decide) rfl rfl rfl ?_); try (dsimp only [st, setL, AV.cells, List.set_cons_zero, List.set_cons_succ, List.drop_zero, List.drop_succ_cons, List.take_zero, List.take_succ_cons, Nat.zero_add, Nat.add_zero, Nat.reduceAdd, List.cons_append, List.nil_append, List.eraseIdx_cons_zero, List.eraseIdx_cons_succ]); refine WX ?_))
        all_goals
          refine W ?_
          refine RET fun h' HL => ?_
          try dsimp only [oneA]
          exact ⟨_, ⟨⟨n, ss.set p1.toNat (p2 - 1, p3), os⟩, _, wo, ct5, sd5, rfl, ⟨by simpa using lw, sw, lo, so⟩, ⟨by show -1 ≤ n ∧ n ≤ 100; omega, by simp; omega, by show os.length ≤ 100; omega, fun s hs => (List.mem_or_eq_of_mem_set hs).elim (hsb' s) (fun e => by rw [e]; dsimp only; omega), hob'⟩, by omega, rfl⟩, loq_selT HL 5 [2, 3, 0] (by decide) (by decide)⟩
      · refine RET fun h' HL => ?_
        try dsimp only [oneA]
        exact ⟨_, ⟨⟨n, ss, os⟩, ws, wo, ct2, sd2, rfl, ⟨lw, sw, lo, so⟩, ⟨by show -1 ≤ n ∧ n ≤ 100; omega, by show ss.length ≤ 100; omega, by show os.length ≤ 100; omega, hsb', hob'⟩, by omega, rfl⟩, loq_selT HL 5 [2, 3, 0] (by decide) (by decide)⟩
    · (first | refine LS_gt rfl ?_ ?_ | refine LS_gf rfl ?_ ?_ | refine LI_cond rfl ?_ ?_) <;> intro hc <;> have hc' := hc <;> try simp only [decide_eq_true_eq, decide_eq_false_iff_not, Bool.not_eq_true', Bool.not_eq_false', Bool.not_eq_true, Bool.not_eq_false, beq_iff_eq, bne_iff_ne, beq_eq_false_iff_ne, bne_eq_false_iff_eq, Int.not_lt, Int.not_le, ge_iff_le, gt_iff_lt, not_and, ne_eq, Decidable.not_not] at hc'
      all_goals (try (dsimp only [st, setL, AV.cells, List.set_cons_zero, List.set_cons_succ, List.drop_zero, List.drop_succ_cons, List.take_zero, List.take_succ_cons, Nat.zero_add, Nat.add_zero, Nat.reduceAdd, List.cons_append, List.nil_append, List.eraseIdx_cons_zero, List.eraseIdx_cons_succ]))
      all_goals (refine W ?_)
      · refine db17_1 [] (by simp) ?_
        refine WX ?_
        repeat' (first | (refine LX_two ?_ ?_ <;> refine WX ?_) | (refine LX_l1e 1 noG rfl rfl rfl ?_; try (dsimp only [st, setL, AV.cells, List.set_cons_zero, List.set_cons_succ, List.drop_zero, List.drop_succ_cons, List.take_zero, List.take_succ_cons, Nat.zero_add, Nat.add_zero, Nat.reduceAdd, List.cons_append, List.nil_append, List.eraseIdx_cons_zero, List.eraseIdx_cons_succ]); refine WX ?_) | (refine LX_l1e 2 noG rfl rfl rfl ?_; try (dsimp only [st, setL, AV.cells, List.set_cons_zero, List.set_cons_succ, List.drop_zero, List.drop_succ_cons, List.take_zero, List.take_succ_cons, Nat.zero_add, Nat.add_zero, Nat.reduceAdd, List.cons_append, List.nil_append, List.eraseIdx_cons_zero, List.eraseIdx_cons_succ]); refine WX ?_) | (refine LX_f noG (LO_cm (.refl _) (fun h' HL wf => pick_ac 12 _ _ _ _ _ _ h' _ HL  hcv hb (by omega) (by omega)) rfl rfl ?_); rintro _ _ ⟨p1, ct3, sd3, rfl, hp1, hct3, rfl⟩; try (dsimp only [st, setL, AV.cells, List.set_cons_zero, List.set_cons_succ, List.drop_zero, List.drop_succ_cons, List.take_zero, List.take_succ_cons, Nat.zero_add, Nat.add_zero, Nat.reduceAdd, List.cons_append, List.nil_append, List.eraseIdx_cons_zero, List.eraseIdx_cons_succ]); refine WX ?_) | (refine LX_f noG (LO_lt [p1 - 1] rfl rfl (by decide) rfl rfl rfl rfl enI1 rfl rfl fun lit llit slit => ?_); try (dsimp only [st, setL, AV.cells, List.set_cons_zero, List.set_cons_succ, List.drop_zero, List.drop_succ_cons, List.take_zero, List.take_succ_cons, Nat.zero_add, Nat.add_zero, Nat.reduceAdd, List.cons_append, List.nil_append, List.eraseIdx_cons_zero, List.eraseIdx_cons_succ]); refine WX ?_) | (refine LX_f noG (LO_ap 4 rfl (fun h' HL => HL.rdI 0 rfl enI1 (by decide)) enI1 (by decide) (by simp) (by simp; omega) (by simp; omega) rfl rfl rfl fun z2 lz2 sz2 => ?_); try (dsimp only [st, setL, AV.cells, List.set_cons_zero, List.set_cons_succ, List.drop_zero, List.drop_succ_cons, List.take_zero, List.take_succ_cons, Nat.zero_add, Nat.add_zero, Nat.reduceAdd, List.cons_append, List.nil_append, List.eraseIdx_cons_zero, List.eraseIdx_cons_succ]); refine WX ?_))
        all_goals
          refine W ?_
          refine RET fun h' HL => ?_
          try dsimp only [oneA]
          exact ⟨_, ⟨⟨n, ss, os ++ [p1 - 1]⟩, ws, z2, ct3, sd3, rfl, ⟨lw, sw, lz2, sz2⟩, ⟨by show -1 ≤ n ∧ n ≤ 100; omega, by show ss.length ≤ 100; omega, by simp; omega, hsb', snoc_all hob' (by omega)⟩, by omega, rfl⟩, loq_selT HL 6 [3, 4, 1] (by decide) (by decide)⟩
      · (first | refine LS_gt rfl ?_ ?_ | refine LS_gf rfl ?_ ?_ | refine LI_cond rfl ?_ ?_) <;> intro hc <;> have hc' := hc <;> try simp only [decide_eq_true_eq, decide_eq_false_iff_not, Bool.not_eq_true', Bool.not_eq_false', Bool.not_eq_true, Bool.not_eq_false, beq_iff_eq, bne_iff_ne, beq_eq_false_iff_ne, bne_eq_false_iff_eq, Int.not_lt, Int.not_le, ge_iff_le, gt_iff_lt, not_and, ne_eq, Decidable.not_not] at hc'
        all_goals (try (dsimp only [st, setL, AV.cells, List.set_cons_zero, List.set_cons_succ, List.drop_zero, List.drop_succ_cons, List.take_zero, List.take_succ_cons, Nat.zero_add, Nat.add_zero, Nat.reduceAdd, List.cons_append, List.nil_append, List.eraseIdx_cons_zero, List.eraseIdx_cons_succ]))
        all_goals (refine W ?_)
        · refine LS_cm (.refl _) (fun h' HL wf => pick_ac 4 _ _ _ _ _ _ h' _ HL  hcv hb (by omega) (by omega)) rfl rfl ?_
          rintro _ _ ⟨k0, ct3, sd3, rfl, hk0, hct3, rfl⟩
          try (dsimp only [st, setL, AV.cells, List.set_cons_zero, List.set_cons_succ, List.drop_zero, List.drop_succ_cons, List.take_zero, List.take_succ_cons, Nat.zero_add, Nat.add_zero, Nat.reduceAdd, List.cons_append, List.nil_append, List.eraseIdx_cons_zero, List.eraseIdx_cons_succ])
          refine W ?_
          rw [hss0]
          refine LIL_nl (k := 2) ?_
          refine LIL_ind (fun k a M => ∃ (i : Int) (u : AV) (ss : List (Int × Int)), (∃ r : Nat → AV, a = [r 0, r 1, r 2, r 3, r 4, r 5, .p b6 0, .p b7 0, .i .i64 i, r 9, r 10, r 11, r 12, r 13, r 14, r 15, r 16, r 17, r 18, r 19, r 20, r 21, r 22, r 23, r 24, r 25, r 26, r 27, r 28, r 29, r 30, r 31, r 32, r 33, r 34, r 35, r 36, r 37, r 38, r 39, r 40, r 41, r 42, r 43, r 44, r 45, r 46, r 47, r 48, r 49, r 50, r 51, r 52, r 53, r 54, r 55, r 56, r 57, r 58, r 59, r 60, r 61, r 62, r 63, r 64, r 65, r 66, r 67, r 68, r 69, r 70, r 71, r 72, r 73, r 74, r 75, r 76, r 77, r 78, r 79, r 80, r 81, r 82, r 83, r 84, r 85, r 86, r 87, r 88, r 89, r 90, r 91, r 92, r 93, r 94, r 95, r 96, r 97, r 98, r 99, r 100, r 101, r 102, r 103, r 104, r 105, r 106, r 107, r 108, r 109, r 110, r 111, r 112, r 113, r 114, r 115]) ∧ M = .sl u 2 (ss.flatMap enStep) :: .pt bc [cv, .i .i64 ct3, .i .u64 sd3] :: .pt b7 [.i .i64 1, u, .ns] :: .sl ws 2 (ss0.flatMap enStep) :: .sl wo 1 (os.flatMap enI) :: .pt b6 [.i .i64 0, .ns, .ns] :: L ∧ i = k ∧ ss.length + k ≤ 30 ∧ (∀ s ∈ ss, (-1 ≤ s.1 ∧ s.1 ≤ 1000) ∧ -1 ≤ s.2 ∧ s.2 ≤ 1000) ∧ lenA u = some ss.length ∧ u.sc = true)
            (18 + k0).toNat ⟨18 + k0, .ns, [], exJ rfl, rfl, by omega, by simp; omega, by simp, rfl, rfl⟩ ?_
          rintro k a M ⟨i, u, qs, ⟨r, rfl⟩, rfl, rfl, hql, hqb, lu, su⟩ IH
          refine W ?_
          (first | refine LS_gt rfl ?_ ?_ | refine LS_gf rfl ?_ ?_ | refine LI_cond rfl ?_ ?_) <;> intro hc <;> have hc' := hc <;> try simp only [decide_eq_true_eq, decide_eq_false_iff_not, Bool.not_eq_true', Bool.not_eq_false', Bool.not_eq_true, Bool.not_eq_false, beq_iff_eq, bne_iff_ne, beq_eq_false_iff_ne, bne_eq_false_iff_eq, Int.not_lt, Int.not_le, ge_iff_le, gt_iff_lt, not_and, ne_eq, Decidable.not_not] at hc'
          all_goals (try (dsimp only [st, setL, AV.cells, List.set_cons_zero, List.set_cons_succ, List.drop_zero, List.drop_succ_cons, List.take_zero, List.take_succ_cons, Nat.zero_add, Nat.add_zero, Nat.reduceAdd, List.cons_append, List.nil_append, List.eraseIdx_cons_zero, List.eraseIdx_cons_succ]))
          all_goals (refine W ?_)
          · refine LS_lt [((qs.length : Int), (qs.length : Int))] rfl rfl (by decide) rfl rfl rfl rfl enStep2 rfl rfl fun lit llit slit => ?_
            try (dsimp only [st, setL, AV.cells, List.set_cons_zero, List.set_cons_succ, List.drop_zero, List.drop_succ_cons, List.take_zero, List.take_succ_cons, Nat.zero_add, Nat.add_zero, Nat.reduceAdd, List.cons_append, List.nil_append, List.eraseIdx_cons_zero, List.eraseIdx_cons_succ])
            refine W ?_
            refine LS_ap 1 rfl (fun h' HL => HL.rdI 0 rfl enStep2 (by decide)) enStep2 (by decide) (by simp) (by simp; omega) (by simp; omega) rfl rfl rfl fun u2 lu2 su2 => ?_
            try (dsimp only [st, setL, AV.cells, List.set_cons_zero, List.set_cons_succ, List.drop_zero, List.drop_succ_cons, List.take_zero, List.take_succ_cons, Nat.zero_add, Nat.add_zero, Nat.reduceAdd, List.cons_append, List.nil_append, List.eraseIdx_cons_zero, List.eraseIdx_cons_succ])
            refine W ?_
            refine LIL_drop 1 ?_
            refine IH (k - 1) _ _ (by omega) ⟨(k : Int) - 1, u2, qs ++ [((qs.length : Int), (qs.length : Int))], exJ rfl, rfl, by omega, by simp; omega, snoc_all hqb ⟨⟨by dsimp only; omega, by dsimp only; omega⟩, by dsimp only; omega, by dsimp only; omega⟩, lu2, su2⟩
          · refine LS_lt [(qs.length : Int)] rfl rfl (by decide) rfl rfl rfl rfl enI1 rfl rfl fun lit llit slit => ?_
            try (dsimp only [st, setL, AV.cells, List.set_cons_zero, List.set_cons_succ, List.drop_zero, List.drop_succ_cons, List.take_zero, List.take_succ_cons, Nat.zero_add, Nat.add_zero, Nat.reduceAdd, List.cons_append, List.nil_append, List.eraseIdx_cons_zero, List.eraseIdx_cons_succ])
            refine W ?_
            refine RET fun h' HL => ?_
            try dsimp only [oneA]
            exact ⟨_, ⟨⟨1, qs, [(qs.length : Int)]⟩, u, lit, ct3, sd3, rfl, ⟨lu, su, llit, slit⟩, ⟨by show (-1 : Int) ≤ 1 ∧ (1 : Int) ≤ 100; omega, by show qs.length ≤ 100; omega, by simp, hqb, fun v hv => by rw [List.mem_singleton.1 hv]; omega⟩, by omega, rfl⟩, loq_selT HL 7 [1, 0, 2] (by decide) (by decide)⟩
        · (first | refine LS_gt rfl ?_ ?_ | refine LS_gf rfl ?_ ?_ | refine LI_cond rfl ?_ ?_) <;> intro hc <;> have hc' := hc <;> try simp only [decide_eq_true_eq, decide_eq_false_iff_not, Bool.not_eq_true', Bool.not_eq_false', Bool.not_eq_true, Bool.not_eq_false, beq_iff_eq, bne_iff_ne, beq_eq_false_iff_ne, bne_eq_false_iff_eq, Int.not_lt, Int.not_le, ge_iff_le, gt_iff_lt, not_and, ne_eq, Decidable.not_not] at hc'
          all_goals (try (dsimp only [st, setL, AV.cells, List.set_cons_zero, List.set_cons_succ, List.drop_zero, List.drop_succ_cons, List.take_zero, List.take_succ_cons, Nat.zero_add, Nat.add_zero, Nat.reduceAdd, List.cons_append, List.nil_append, List.eraseIdx_cons_zero, List.eraseIdx_cons_succ]))
          all_goals (refine W ?_)
          · refine LIL_ind (fun k a M => ∃ (z : AV) (os : List Int) (ct' sd' : Int), (∃ r : Nat → AV, a = [.p bc 0, r 1, r 2, r 3, r 4, r 5, .p b6 0, .p b7 0, r 8, r 9, r 10, r 11, r 12, r 13, r 14, r 15, r 16, r 17, r 18, r 19, r 20, r 21, r 22, r 23, r 24, r 25, r 26, r 27, r 28, r 29, r 30, r 31, r 32, r 33, r 34, r 35, r 36, r 37, r 38, r 39, r 40, r 41, r 42, r 43, r 44, r 45, r 46, r 47, r 48, r 49, r 50, r 51, r 52, r 53, r 54, r 55, r 56, r 57, r 58, r 59, r 60, r 61, r 62, r 63, r 64, r 65, r 66, r 67, r 68, r 69, r 70, r 71, r 72, r 73, r 74, r 75, r 76, r 77, r 78, r 79, r 80, r 81, r 82, r 83, r 84, r 85, r 86, r 87, r 88, r 89, r 90, r 91, r 92, r 93, r 94, r 95, r 96, r 97, r 98, r 99, r 100, r 101, r 102, r 103, r 104, r 105, r 106, r 107, r 108, r 109, r 110, r 111, r 112, r 113, r 114, r 115]) ∧ M = .pt bc [cv, .i .i64 ct', .i .u64 sd'] :: .pt b7 [.i .i64 n, ws, z] :: .sl ws 2 (ss.flatMap enStep) :: .sl z 1 (os.flatMap enI) :: .pt b6 [.i .i64 0, .ns, .ns] :: L ∧ os.length + k = 8 ∧ (∀ v ∈ os, -1000 ≤ v ∧ v ≤ 1000) ∧ ct ≤ ct' ∧ ct' + 2 * k ≤ ct + 400 ∧ lenA z = some os.length ∧ z.sc = true)
              (8 - os.length) ⟨wo, os, ct2, sd2, exJ rfl, rfl, by omega, hob', by omega, by omega, lo, so⟩ ?_
            rintro k a M ⟨z, qs, ct3, sd3, ⟨r, rfl⟩, rfl, hql, hqb, hc1, hc2, lz, sz⟩ IH
            refine W ?_
            refine LI_post (fun a M => ∃ (p1 ct' sd' : Int), (∃ r : Nat → AV, a = [.p bc 0, r 1, r 2, r 3, r 4, r 5, .p b6 0, .p b7 0, r 8, r 9, r 10, r 11, r 12, r 13, r 14, r 15, r 16, r 17, r 18, r 19, r 20, r 21, r 22, r 23, r 24, r 25, r 26, r 27, r 28, r 29, r 30, r 31, r 32, r 33, r 34, r 35, r 36, r 37, r 38, r 39, r 40, r 41, r 42, r 43, r 44, r 45, r 46, r 47, r 48, r 49, r 50, r 51, r 52, r 53, r 54, r 55, r 56, r 57, r 58, r 59, r 60, r 61, r 62, r 63, r 64, r 65, r 66, r 67, r 68, r 69, r 70, r 71, r 72, r 73, r 74, r 75, r 76, r 77, r 78, r 79, r 80, r 81, r 82, r 83, r 84, r 85, r 86, .b (decide ((qs.length : Int) < 6 + p1)), r 88, r 89, r 90, r 91, r 92, r 93, r 94, r 95, r 96, r 97, r 98, r 99, r 100, r 101, r 102, r 103, r 104, r 105, r 106, r 107, r 108, r 109, r 110, r 111, r 112, r 113, r 114, r 115]) ∧ M = .pt bc [cv, .i .i64 ct', .i .u64 sd'] :: .pt b7 [.i .i64 n, ws, z] :: .sl ws 2 (ss.flatMap enStep) :: .sl z 1 (qs.flatMap enI) :: .pt b6 [.i .i64 0, .ns, .ns] :: L ∧ (0 ≤ p1 ∧ p1 ≤ 1) ∧ ct3 ≤ ct' ∧ ct' ≤ ct3 + 2) ?_ ?_
            · refine db17_2 [] (by simp) ?_
              refine WX ?_
              repeat' (first | (refine LX_two ?_ ?_ <;> refine WX ?_) | (refine LX_l1e 1 noG rfl rfl rfl ?_; try (dsimp only [st, setL, AV.cells, List.set_cons_zero, List.set_cons_succ, List.drop_zero, List.drop_succ_cons, List.take_zero, List.take_succ_cons, Nat.zero_add, Nat.add_zero, Nat.reduceAdd, List.cons_append, List.nil_append, List.eraseIdx_cons_zero, List.eraseIdx_cons_succ]); refine WX ?_) | (refine LX_f noG (LO_cm (.refl _) (fun h' HL wf => pick_ac 2 _ _ _ _ _ _ h' _ HL  hcv hb (by omega) (by omega)) rfl rfl ?_); rintro _ _ ⟨p1, ct4, sd4, rfl, hp1, hct4, rfl⟩; try (dsimp only [st, setL, AV.cells, List.set_cons_zero, List.set_cons_succ, List.drop_zero, List.drop_succ_cons, List.take_zero, List.take_succ_cons, Nat.zero_add, Nat.add_zero, Nat.reduceAdd, List.cons_append, List.nil_append, List.eraseIdx_cons_zero, List.eraseIdx_cons_succ]); refine WX ?_))
              all_goals exact ⟨rfl, p1, ct4, sd4, exJ rfl, rfl, by omega, by omega, by omega⟩
            · rintro _ _ ⟨p1, ct4, sd4, ⟨r, rfl⟩, rfl, hp1, hc3, hc4⟩
              refine LThen_n ?_
              refine W ?_
              (first | refine LS_gt rfl ?_ ?_ | refine LS_gf rfl ?_ ?_ | refine LI_cond rfl ?_ ?_) <;> intro hc <;> have hc' := hc <;> try simp only [decide_eq_true_eq, decide_eq_false_iff_not, Bool.not_eq_true', Bool.not_eq_false', Bool.not_eq_true, Bool.not_eq_false, beq_iff_eq, bne_iff_ne, beq_eq_false_iff_ne, bne_eq_false_iff_eq, Int.not_lt, Int.not_le, ge_iff_le, gt_iff_lt, not_and, ne_eq, Decidable.not_not] at hc'
              all_goals (try (dsimp only [st, setL, AV.cells, List.set_cons_zero, List.set_cons_succ, List.drop_zero, List.drop_succ_cons, List.take_zero, List.take_succ_cons, Nat.zero_add, Nat.add_zero, Nat.reduceAdd, List.cons_append, List.nil_append, List.eraseIdx_cons_zero, List.eraseIdx_cons_succ]))
              all_goals (refine W ?_)
              · refine LS_lt [(0 : Int)] rfl rfl (by decide) rfl rfl rfl rfl enI1 rfl rfl fun lit llit slit => ?_
                try (dsimp only [st, setL, AV.cells, List.set_cons_zero, List.set_cons_succ, List.drop_zero, List.drop_succ_cons, List.take_zero, List.take_succ_cons, Nat.zero_add, Nat.add_zero, Nat.reduceAdd, List.cons_append, List.nil_append, List.eraseIdx_cons_zero, List.eraseIdx_cons_succ])
                refine W ?_
                refine LS_ap 4 rfl (fun h' HL => HL.rdI 0 rfl enI1 (by decide)) enI1 (by decide) (by simp) (by simp; omega) (by simp; omega) rfl rfl rfl fun z2 lz2 sz2 => ?_
                try (dsimp only [st, setL, AV.cells, List.set_cons_zero, List.set_cons_succ, List.drop_zero, List.drop_succ_cons, List.take_zero, List.take_succ_cons, Nat.zero_add, Nat.add_zero, Nat.reduceAdd, List.cons_append, List.nil_append, List.eraseIdx_cons_zero, List.eraseIdx_cons_succ])
                refine W ?_
                refine LIL_drop 1 ?_
                refine IH (k - 1) _ _ (by omega) ⟨z2, qs ++ [0], ct4, sd4, exJ rfl, rfl, by simp; omega, snoc_all hqb (by omega), by omega, by omega, lz2, sz2⟩
              · refine RET fun h' HL => ?_
                try dsimp only [oneA]
                exact ⟨_, ⟨⟨n, ss, qs⟩, ws, z, ct4, sd4, rfl, ⟨lw, sw, lz, sz⟩, ⟨by show -1 ≤ n ∧ n ≤ 100; omega, by show ss.length ≤ 100; omega, by show qs.length ≤ 100; omega, hsb', hqb⟩, by omega, rfl⟩, loq_selT HL 5 [2, 3, 0] (by decide) (by decide)⟩
          · (first | refine LS_gt rfl ?_ ?_ | refine LS_gf rfl ?_ ?_ | refine LI_cond rfl ?_ ?_) <;> intro hc <;> have hc' := hc <;> try simp only [decide_eq_true_eq, decide_eq_false_iff_not, Bool.not_eq_true', Bool.not_eq_false', Bool.not_eq_true, Bool.not_eq_false, beq_iff_eq, bne_iff_ne, beq_eq_false_iff_ne, bne_eq_false_iff_eq, Int.not_lt, Int.not_le, ge_iff_le, gt_iff_lt, not_and, ne_eq, Decidable.not_not] at hc'
            all_goals (try (dsimp only [st, setL, AV.cells, List.set_cons_zero, List.set_cons_succ, List.drop_zero, List.drop_succ_cons, List.take_zero, List.take_succ_cons, Nat.zero_add, Nat.add_zero, Nat.reduceAdd, List.cons_append, List.nil_append, List.eraseIdx_cons_zero, List.eraseIdx_cons_succ]))
            all_goals (refine W ?_)
            · refine LS_cm (.refl _) (fun h' HL wf => pick_ac 2 _ _ _ _ _ _ h' _ HL  hcv hb (by omega) (by omega)) rfl rfl ?_
              rintro _ _ ⟨k0, ct3, sd3, rfl, hk0, hct3, rfl⟩
              try (dsimp only [st, setL, AV.cells, List.set_cons_zero, List.set_cons_succ, List.drop_zero, List.drop_succ_cons, List.take_zero, List.take_succ_cons, Nat.zero_add, Nat.add_zero, Nat.reduceAdd, List.cons_append, List.nil_append, List.eraseIdx_cons_zero, List.eraseIdx_cons_succ])
              refine W ?_
              rw [hss0]
              refine LIL_nl (k := 2) ?_
              refine LIL_ind (fun k a M => ∃ (i : Int) (u : AV) (ss : List (Int × Int)), (∃ r : Nat → AV, a = [r 0, r 1, r 2, r 3, r 4, r 5, .p b6 0, .p b7 0, r 8, .i .i64 i, r 10, r 11, r 12, r 13, r 14, r 15, r 16, r 17, r 18, r 19, r 20, r 21, r 22, r 23, r 24, r 25, r 26, r 27, r 28, r 29, r 30, r 31, r 32, r 33, r 34, r 35, r 36, r 37, r 38, r 39, r 40, r 41, r 42, r 43, r 44, r 45, r 46, r 47, r 48, r 49, r 50, r 51, r 52, r 53, r 54, r 55, r 56, r 57, r 58, r 59, r 60, r 61, r 62, r 63, r 64, r 65, r 66, r 67, r 68, r 69, r 70, r 71, r 72, r 73, r 74, r 75, r 76, r 77, r 78, r 79, r 80, r 81, r 82, r 83, r 84, r 85, r 86, r 87, r 88, r 89, r 90, r 91, r 92, r 93, r 94, r 95, r 96, r 97, r 98, r 99, r 100, r 101, r 102, r 103, r 104, r 105, r 106, r 107, r 108, r 109, r 110, r 111, r 112, r 113, r 114, r 115]) ∧ M = .sl u 2 (ss.flatMap enStep) :: .pt bc [cv, .i .i64 ct3, .i .u64 sd3] :: .pt b7 [.i .i64 2, u, .ns] :: .sl ws 2 (ss0.flatMap enStep) :: .sl wo 1 (os.flatMap enI) :: .pt b6 [.i .i64 0, .ns, .ns] :: L ∧ i = k ∧ ss.length + k ≤ 50 ∧ (∀ s ∈ ss, (-1 ≤ s.1 ∧ s.1 ≤ 1000) ∧ -1 ≤ s.2 ∧ s.2 ≤ 1000) ∧ lenA u = some ss.length ∧ u.sc = true)
                (40 + k0).toNat ⟨40 + k0, .ns, [], exJ rfl, rfl, by omega, by simp; omega, by simp, rfl, rfl⟩ ?_
              rintro k a M ⟨i, u, qs, ⟨r, rfl⟩, rfl, rfl, hql, hqb, lu, su⟩ IH
              refine W ?_
              (first | refine LS_gt rfl ?_ ?_ | refine LS_gf rfl ?_ ?_ | refine LI_cond rfl ?_ ?_) <;> intro hc <;> have hc' := hc <;> try simp only [decide_eq_true_eq, decide_eq_false_iff_not, Bool.not_eq_true', Bool.not_eq_false', Bool.not_eq_true, Bool.not_eq_false, beq_iff_eq, bne_iff_ne, beq_eq_false_iff_ne, bne_eq_false_iff_eq, Int.not_lt, Int.not_le, ge_iff_le, gt_iff_lt, not_and, ne_eq, Decidable.not_not] at hc'
              all_goals (try (dsimp only [st, setL, AV.cells, List.set_cons_zero, List.set_cons_succ, List.drop_zero, List.drop_succ_cons, List.take_zero, List.take_succ_cons, Nat.zero_add, Nat.add_zero, Nat.reduceAdd, List.cons_append, List.nil_append, List.eraseIdx_cons_zero, List.eraseIdx_cons_succ]))
              all_goals (refine W ?_)
              · refine LS_lt [((0 : Int), 1 + (qs.length : Int))] rfl rfl (by decide) rfl rfl rfl rfl enStep2 rfl rfl fun lit llit slit => ?_
                try (dsimp only [st, setL, AV.cells, List.set_cons_zero, List.set_cons_succ, List.drop_zero, List.drop_succ_cons, List.take_zero, List.take_succ_cons, Nat.zero_add, Nat.add_zero, Nat.reduceAdd, List.cons_append, List.nil_append, List.eraseIdx_cons_zero, List.eraseIdx_cons_succ])
                refine W ?_
                refine LS_ap 1 rfl (fun h' HL => HL.rdI 0 rfl enStep2 (by decide)) enStep2 (by decide) (by simp) (by simp; omega) (by simp; omega) rfl rfl rfl fun u2 lu2 su2 => ?_
                try (dsimp only [st, setL, AV.cells, List.set_cons_zero, List.set_cons_succ, List.drop_zero, List.drop_succ_cons, List.take_zero, List.take_succ_cons, Nat.zero_add, Nat.add_zero, Nat.reduceAdd, List.cons_append, List.nil_append, List.eraseIdx_cons_zero, List.eraseIdx_cons_succ])
                refine W ?_
                refine LIL_drop 1 ?_
                refine IH (k - 1) _ _ (by omega) ⟨(k : Int) - 1, u2, qs ++ [((0 : Int), 1 + (qs.length : Int))], exJ rfl, rfl, by omega, by simp; omega, snoc_all hqb ⟨⟨by dsimp only; omega, by dsimp only; omega⟩, by dsimp only; omega, by dsimp only; omega⟩, lu2, su2⟩
              · refine LS_lt [(5 : Int)] rfl rfl (by decide) rfl rfl rfl rfl enI1 rfl rfl fun lit llit slit => ?_
                try (dsimp only [st, setL, AV.cells, List.set_cons_zero, List.set_cons_succ, List.drop_zero, List.drop_succ_cons, List.take_zero, List.take_succ_cons, Nat.zero_add, Nat.add_zero, Nat.reduceAdd, List.cons_append, List.nil_append, List.eraseIdx_cons_zero, List.eraseIdx_cons_succ])
                refine W ?_
                refine RET fun h' HL => ?_
                try dsimp only [oneA]
                exact ⟨_, ⟨⟨2, qs, [5]⟩, u, lit, ct3, sd3, rfl, ⟨lu, su, llit, slit⟩, ⟨by show (-1 : Int) ≤ 2 ∧ (2 : Int) ≤ 100; omega, by show qs.length ≤ 100; omega, by simp, hqb, fun v hv => by rw [List.mem_singleton.1 hv]; omega⟩, by omega, rfl⟩, loq_selT HL 7 [1, 0, 2] (by decide) (by decide)⟩
            · refine RET fun h' HL => ?_
              try dsimp only [oneA]
              exact ⟨_, ⟨⟨n, ss, os⟩, ws, wo, ct2, sd2, rfl, ⟨lw, sw, lo, so⟩, ⟨by show -1 ≤ n ∧ n ≤ 100; omega, by show ss.length ≤ 100; omega, by show os.length ≤ 100; omega, hsb', hob'⟩, by omega, rfl⟩, loq_selT HL 5 [2, 3, 0] (by decide) (by decide)⟩

/-! ### Runs that are drawn -/
theorem inputs_ac (bc : Nat) (cv : AV) (l : List Int) (ct sd : Int) (h0 h : AH) (L : List It) (HL : Loq h0 h (.pt bc [cv, .i .i64 ct, .i .u64 sd] :: L)) (hcv : RdG 1 enU h0 cv l) (hb : ∀ x ∈ l, 0 ≤ x ∧ x ≤ 255) (h1 : 0 ≤ ct) (h2 : ct ≤ 549745813888) :
    AC Try.prog 18 [.p bc 0] h (fun r h' => ∃ M, (∃ x ct' sd', r = .i .i64 x ∧ (1 ≤ x ∧ x ≤ 4) ∧ (ct ≤ ct' ∧ ct' ≤ ct + 2) ∧ M = .pt bc [cv, .i .i64 ct', .i .u64 sd'] :: L) ∧ Loq h0 h' M) := by
  refine e18 _ fun wf => ?_
  unfold c18
  refine LI_startL HL ?_
  refine W ?_
  refine LS_lt [1, 1, 2, 2, 3, 4] rfl rfl (by decide) rfl rfl rfl rfl enI1 rfl rfl fun w lw sw => ?_
  try (dsimp only [st, setL, AV.cells, List.set_cons_zero, List.set_cons_succ, List.drop_zero, List.drop_succ_cons, List.take_zero, List.take_succ_cons, Nat.zero_add, Nat.add_zero, Nat.reduceAdd, List.cons_append, List.nil_append, List.eraseIdx_cons_zero, List.eraseIdx_cons_succ])
  refine W ?_
  refine LS_rot 1 rfl ?_
  refine LS_cm (.refl _) (fun h' HL wf => among_ac [1, 1, 2, 2, 3, 4] w _ _ _ _ _ _ h' _ HL (fun h' HL => HL.rdI 0 rfl enI1 (by decide)) (by decide) hcv hb (by omega) (by omega)) rfl rfl ?_
  rintro _ _ ⟨x, ct1, sd1, rfl, hx, hct1, rfl⟩
  try (dsimp only [st, setL, AV.cells, List.set_cons_zero, List.set_cons_succ, List.drop_zero, List.drop_succ_cons, List.take_zero, List.take_succ_cons, Nat.zero_add, Nat.add_zero, Nat.reduceAdd, List.cons_append, List.nil_append, List.eraseIdx_cons_zero, List.eraseIdx_cons_succ])
  refine W ?_
  have : x = 1 ∨ x = 2 ∨ x = 3 ∨ x = 4 := by simp at hx; omega
  refine RET fun h' HL => ?_
  try dsimp only [oneA]
  exact ⟨_, ⟨_, ct1, sd1, rfl, by omega, by omega, rfl⟩, HL.sub (by simp)⟩

theorem DrawRunMatrices_ac (c1 : List Int) (v1 : AV) (h : AH) (hcv : RdG 1 enU h v1 c1) (hb : ∀ x ∈ c1, 0 ≤ x ∧ x ≤ 255) :
    AC Try.prog 6 [v1] h (fun r h' => ∃ M, (∃ (q : PlanM) (ws wo vi : AV) (m : Int) (is : List MatM), r = .tup [.agg [.i .i64 q.n, ws, wo], .i .i64 m, vi] ∧ (lenA ws = some q.steps.length ∧ ws.sc = true ∧ lenA wo = some q.outs.length ∧ wo.sc = true) ∧ PlB q ∧ (lenA vi = some is.length ∧ vi.sc = true ∧ is.length ≤ 21 ∧ ∀ z ∈ is, matB z) ∧ (-1 ≤ m ∧ m ≤ 10001) ∧ M = [.sl vi 4 (is.flatMap enMat), .sl ws 2 (q.steps.flatMap enStep), .sl wo 1 (q.outs.flatMap enI)]) ∧ Loq h h' M) := by
  refine e6 _ fun wf => ?_
  unfold c6
  refine LI_start wf ?_
  refine W ?_
  refine LS_al rfl fun b2 => ?_
  try (dsimp only [st, setL, AV.cells, List.set_cons_zero, List.set_cons_succ, List.drop_zero, List.drop_succ_cons, List.take_zero, List.take_succ_cons, Nat.zero_add, Nat.add_zero, Nat.reduceAdd, List.cons_append, List.nil_append, List.eraseIdx_cons_zero, List.eraseIdx_cons_succ])
  refine W ?_
  refine LS_bxn rfl (sc_cons (rd_sc hcv) rfl) fun bc => ?_
  try (dsimp only [st, setL, AV.cells, List.set_cons_zero, List.set_cons_succ, List.drop_zero, List.drop_succ_cons, List.take_zero, List.take_succ_cons, Nat.zero_add, Nat.add_zero, Nat.reduceAdd, List.cons_append, List.nil_append, List.eraseIdx_cons_zero, List.eraseIdx_cons_succ])
  refine W ?_
  refine LS_cm (.refl _) (fun h' HL wf => inputs_ac _ _ _ _ _ _ h' _ HL  hcv hb (by omega) (by omega)) rfl rfl ?_
  rintro _ _ ⟨x, ct1, sd1, rfl, hx, hct1, rfl⟩
  try (dsimp only [st, setL, AV.cells, List.set_cons_zero, List.set_cons_succ, List.drop_zero, List.drop_succ_cons, List.take_zero, List.take_succ_cons, Nat.zero_add, Nat.add_zero, Nat.reduceAdd, List.cons_append, List.nil_append, List.eraseIdx_cons_zero, List.eraseIdx_cons_succ])
  refine W ?_
  refine LS_lt [3, 6, 10] rfl rfl (by decide) rfl rfl rfl rfl enI1 rfl rfl fun w lw sw => ?_
  try (dsimp only [st, setL, AV.cells, List.set_cons_zero, List.set_cons_succ, List.drop_zero, List.drop_succ_cons, List.take_zero, List.take_succ_cons, Nat.zero_add, Nat.add_zero, Nat.reduceAdd, List.cons_append, List.nil_append, List.eraseIdx_cons_zero, List.eraseIdx_cons_succ])
  refine W ?_
  refine LS_rot 1 rfl ?_
  refine LS_cm (.refl _) (fun h' HL wf => among_ac [3, 6, 10] w _ _ _ _ _ _ h' _ HL (fun h' HL => HL.rdI 0 rfl enI1 (by decide)) (by decide) hcv hb (by omega) (by omega)) rfl rfl ?_
  rintro _ _ ⟨y, ct2, sd2, rfl, hy0, hct2, rfl⟩
  try (dsimp only [st, setL, AV.cells, List.set_cons_zero, List.set_cons_succ, List.drop_zero, List.drop_succ_cons, List.take_zero, List.take_succ_cons, Nat.zero_add, Nat.add_zero, Nat.reduceAdd, List.cons_append, List.nil_append, List.eraseIdx_cons_zero, List.eraseIdx_cons_succ])
  refine W ?_
  have hy : y = 3 ∨ y = 6 ∨ y = 10 := by simpa using hy0
  refine LS_cm (.refl _) (fun h' HL wf => anyPlan_ac x y (by omega) (by omega) _ _ _ _ _ _ h' _ HL hcv hb (by omega) (by omega)) rfl rfl ?_
  rintro _ _ ⟨q, ws, wo, ct3, sd3, rfl, ⟨lw', sw', lo, so⟩, hB, hct3, rfl⟩
  have hn := hB.n
  try (dsimp only [st, setL, AV.cells, List.set_cons_zero, List.set_cons_succ, List.drop_zero, List.drop_succ_cons, List.take_zero, List.take_succ_cons, Nat.zero_add, Nat.add_zero, Nat.reduceAdd, List.cons_append, List.nil_append, List.eraseIdx_cons_zero, List.eraseIdx_cons_succ])
  refine W ?_
  refine LS_al rfl fun b6 => ?_
  try (dsimp only [st, setL, AV.cells, List.set_cons_zero, List.set_cons_succ, List.drop_zero, List.drop_succ_cons, List.take_zero, List.take_succ_cons, Nat.zero_add, Nat.add_zero, Nat.reduceAdd, List.cons_append, List.nil_append, List.eraseIdx_cons_zero, List.eraseIdx_cons_succ])
  refine W ?_
  refine LS_rot 3 rfl ?_
  refine LS_cm (.refl _) (fun h' HL wf => modulus6_ac _ _ _ _ _ _ h' _ HL  hcv hb (by omega) (by omega)) rfl rfl ?_
  rintro _ _ ⟨m, ct4, sd4, rfl, hm, hct4, rfl⟩
  try (dsimp only [st, setL, AV.cells, List.set_cons_zero, List.set_cons_succ, List.drop_zero, List.drop_succ_cons, List.take_zero, List.take_succ_cons, Nat.zero_add, Nat.add_zero, Nat.reduceAdd, List.cons_append, List.nil_append, List.eraseIdx_cons_zero, List.eraseIdx_cons_succ])
  refine W ?_
  obtain ⟨m1, hm1⟩ : ∃ m : Int, (if q.n < 9 then q.n else 9) = m := ⟨_, rfl⟩
  have hcl := fun (h' : AH) => least1_ac q.n 9 h'
  rw [hm1] at hcl
  have hm1b : m1 ≤ 9 := by rw [← hm1]; split <;> omega
  obtain ⟨m2, hm2⟩ : ∃ m : Int, (if m1 < 0 then 0 else m1) = m := ⟨_, rfl⟩
  have hcm := fun (h' : AH) => most1_ac 0 m1 h'
  rw [hm2] at hcm
  have hmb : 0 ≤ m2 ∧ m2 ≤ 9 := by rw [← hm2]; split <;> omega
  refine LS_c0 (fun h' HL wf => hcl h') rfl rfl ?_
  try (dsimp only [st, setL, AV.cells, List.set_cons_zero, List.set_cons_succ, List.drop_zero, List.drop_succ_cons, List.take_zero, List.take_succ_cons, Nat.zero_add, Nat.add_zero, Nat.reduceAdd, List.cons_append, List.nil_append, List.eraseIdx_cons_zero, List.eraseIdx_cons_succ])
  refine W ?_
  refine LS_c0 (fun h' HL wf => hcm h') rfl rfl ?_
  try (dsimp only [st, setL, AV.cells, List.set_cons_zero, List.set_cons_succ, List.drop_zero, List.drop_succ_cons, List.take_zero, List.take_succ_cons, Nat.zero_add, Nat.add_zero, Nat.reduceAdd, List.cons_append, List.nil_append, List.eraseIdx_cons_zero, List.eraseIdx_cons_succ])
  refine W ?_
  refine LIL_rm 4 ?_
  refine LIL_nl (k := 4) ?_
  refine LIL_ind (fun k a M => ∃ (i : Int) (u : AV) (xs : List MatM) (ct' sd' : Int), (∃ r : Nat → AV, a = [r 0, r 1, .p b2 0, r 3, r 4, .p bc 0, .p b6 0, .i .i64 m, u, .i .i64 i, r 10, r 11, r 12, r 13, r 14, r 15, r 16, r 17, r 18, r 19, r 20, r 21, r 22, r 23, r 24, r 25, r 26, r 27, r 28, r 29, r 30, r 31, r 32, r 33, r 34, r 35, r 36, r 37, r 38]) ∧ M = .sl u 4 (xs.flatMap enMat) :: [.pt bc [v1, .i .i64 ct', .i .u64 sd'], .pt b6 [.i .i64 q.n, ws, wo], .sl ws 2 (q.steps.flatMap enStep), .sl wo 1 (q.outs.flatMap enI), .pt b2 [.i .i64 0, .ns, .ns]] ∧ i.toNat = k ∧ i ≤ 9 ∧ xs.length + k ≤ 21 ∧ (∀ z ∈ xs, matB z) ∧ 0 ≤ ct' ∧ ct' + 16 * k ≤ 5000 ∧ lenA u = some xs.length ∧ u.sc = true)
    m2.toNat ⟨m2, .ns, [], ct4, sd4, exJ rfl, rfl, rfl, by omega, by simp; omega, by simp, by omega, by omega, rfl, rfl⟩ ?_
  rintro k a M ⟨i, u, xs, ct5, sd5, ⟨r, rfl⟩, rfl, hi, hi2, hxl, hxb, hc1, hc2, lu, su⟩ IH
  refine W ?_
  (first | refine LS_gt rfl ?_ ?_ | refine LS_gf rfl ?_ ?_ | refine LI_cond rfl ?_ ?_) <;> intro hc <;> have hc' := hc <;> try simp only [decide_eq_true_eq, decide_eq_false_iff_not, Bool.not_eq_true', Bool.not_eq_false', Bool.not_eq_true, Bool.not_eq_false, beq_iff_eq, bne_iff_ne, beq_eq_false_iff_ne, bne_eq_false_iff_eq, Int.not_lt, Int.not_le, ge_iff_le, gt_iff_lt, not_and, ne_eq, Decidable.not_not] at hc'
  all_goals (try (dsimp only [st, setL, AV.cells, List.set_cons_zero, List.set_cons_succ, List.drop_zero, List.drop_succ_cons, List.take_zero, List.take_succ_cons, Nat.zero_add, Nat.add_zero, Nat.reduceAdd, List.cons_append, List.nil_append, List.eraseIdx_cons_zero, List.eraseIdx_cons_succ]))
  all_goals (refine W ?_)
  · refine LS_rot 1 rfl ?_
    refine LS_cm (.refl _) (fun h' HL wf => curMatrix_ac m hm _ _ _ _ _ _ h' _ HL  hcv hb (by omega) (by omega)) rfl rfl ?_
    rintro _ _ ⟨x, ct6, sd6, rfl, hx, hct6, rfl⟩
    try (dsimp only [st, setL, AV.cells, List.set_cons_zero, List.set_cons_succ, List.drop_zero, List.drop_succ_cons, List.take_zero, List.take_succ_cons, Nat.zero_add, Nat.add_zero, Nat.reduceAdd, List.cons_append, List.nil_append, List.eraseIdx_cons_zero, List.eraseIdx_cons_succ])
    refine W ?_
    refine LS_lt [x] rfl rfl (by decide) rfl rfl rfl rfl enMat4 rfl rfl fun w lw sw => ?_
    try (dsimp only [st, setL, AV.cells, List.set_cons_zero, List.set_cons_succ, List.drop_zero, List.drop_succ_cons, List.take_zero, List.take_succ_cons, Nat.zero_add, Nat.add_zero, Nat.reduceAdd, List.cons_append, List.nil_append, List.eraseIdx_cons_zero, List.eraseIdx_cons_succ])
    refine W ?_
    refine LS_ap 2 rfl (fun h' HL => HL.rdI 0 rfl enMat4 (by decide)) enMat4 (by decide) (by simp) (by simp; omega) (by simp; omega) rfl rfl rfl fun u2 lu2 su2 => ?_
    try (dsimp only [st, setL, AV.cells, List.set_cons_zero, List.set_cons_succ, List.drop_zero, List.drop_succ_cons, List.take_zero, List.take_succ_cons, Nat.zero_add, Nat.add_zero, Nat.reduceAdd, List.cons_append, List.nil_append, List.eraseIdx_cons_zero, List.eraseIdx_cons_succ])
    refine W ?_
    refine LIL_drop 1 ?_
    refine LIL_rot 1 rfl ?_
    refine IH (k - 1) _ _ (by omega) ⟨i - 1, u2, xs ++ [x], ct6, sd6, exJ rfl, rfl, by omega, by omega, by simp; omega, ?_, by omega, by omega, lu2, su2⟩
    intro z hz
    rcases List.mem_append.1 hz with hz | hz
    · exact hxb z hz
    · rw [List.mem_singleton.1 hz]; exact hx
  · refine RET fun h' HL => ?_
    try dsimp only [oneA]
    exact ⟨_, ⟨q, ws, wo, u, m, xs, rfl, ⟨lw', sw', lo, so⟩, hB, ⟨lu, su, by omega, hxb⟩, hm, rfl⟩, HL.sel [0, 3, 4] (by decide)⟩

/-! ### Exponents of a composed plan: plain laws -/
def colE (p : PlanM) (i v : Nat) : Int := ((expsE p).getD v []).getD i 0

def outE (p : PlanM) (os : List Int) : List (List Int) := os.map fun v => (expsE p).getD v.toNat []

theorem outE_snoc {p : PlanM} {os : List Int} {i : Nat} {v : Int} (h : os[i]? = some v) : outE p (os.take (i + 1)) = outE p (os.take i) ++ [(expsE p).getD v.toNat []] := by rw [outE, take_snoc h, List.map_append]; rfl

theorem outputExponents_ac (p : PlanM) (b : Nat) (vs vo : AV) (h : AH) (hp : PlP h b p vs vo) (hk : planOk p = true) :
    AC Try.prog 37 [.p b 0] h (fun r h' => ∃ M, (∃ us, us.length = (outE p p.outs).length ∧ lenA r = some us.length ∧ r.sc = true ∧ M = ssI r us (outE p p.outs)) ∧ Loq h h' M) := by
  obtain ⟨h1, h2, h3, h4, hf, h6⟩ := planOk_out hk
  have c2 := hp.c2
  have ho := hp.outs
  have hol := ho.len
  refine e37 _ fun wf => ?_
  unfold c37
  refine LI_start wf ?_
  refine W ?_
  refine LS_c1 (fun h' HL wf => exponents_ac p b vs vo h' (hp.le HL.le) h1 h2 h3 hf) rfl rfl ?_
  try (dsimp only [st, setL, AV.cells, List.set_cons_zero, List.set_cons_succ, List.drop_zero, List.drop_succ_cons, List.take_zero, List.take_succ_cons, Nat.zero_add, Nat.add_zero, Nat.reduceAdd, List.cons_append, List.nil_append, List.eraseIdx_cons_zero, List.eraseIdx_cons_succ])
  refine W ?_
  rintro all _ ⟨ua, hua, la, sa, rfl⟩
  try (dsimp only [st, setL, AV.cells, List.set_cons_zero, List.set_cons_succ, List.drop_zero, List.drop_succ_cons, List.take_zero, List.take_succ_cons, Nat.zero_add, Nat.add_zero, Nat.reduceAdd, List.cons_append, List.nil_append, List.eraseIdx_cons_zero, List.eraseIdx_cons_succ])
  refine W ?_
  have hel := expsE_len hf h1
  refine LS_lt ([] : List AV) rfl rfl (by decide) rfl rfl rfl rfl enV1 rfl rfl fun lit0 hlit0 slit0 => ?_
  try (dsimp only [st, setL, AV.cells, List.set_cons_zero, List.set_cons_succ, List.drop_zero, List.drop_succ_cons, List.take_zero, List.take_succ_cons, Nat.zero_add, Nat.add_zero, Nat.reduceAdd, List.cons_append, List.nil_append, List.eraseIdx_cons_zero, List.eraseIdx_cons_succ])
  refine W ?_
  refine LIL_ind (fun k a L => ∃ (out : AV) (i : Int) (us : List AV), (∃ r : Nat → AV, a = [r 0, r 1, r 2, all, out, r 5, r 6, r 7, r 8, r 9, r 10, r 11, r 12, vo, .i .i64 p.outs.length, .i .i64 i, r 16, r 17, r 18, r 19, r 20, r 21, r 22, r 23, r 24, r 25, r 26, r 27, r 28]) ∧ L = .sl out 1 (us.flatMap enV) :: (rowsI us (outE p (p.outs.take i.toNat)) ++ (ssI all ua (expsE p) ++ [])) ∧ us.length = i.toNat ∧ 0 ≤ i ∧ i + k = p.outs.length ∧ lenA out = some us.length ∧ out.sc = true)
    p.outs.length ⟨lit0, 0, [], exJ rfl, rfl, rfl, by omega, by omega, hlit0, slit0⟩ ?_
  rintro k a L ⟨out, i, us, ⟨r, rfl⟩, rfl, hus, h0, hk', lo, so⟩ IH
  have hul : us.length = (outE p (p.outs.take i.toNat)).length := by rw [hus, outE, List.length_map, List.length_take]; omega
  refine W ?_
  (first | refine LS_gt rfl ?_ ?_ | refine LS_gf rfl ?_ ?_ | refine LI_cond rfl ?_ ?_) <;> intro hc <;> have hc' := hc <;> try simp only [decide_eq_true_eq, decide_eq_false_iff_not, Bool.not_eq_true', Bool.not_eq_false', Bool.not_eq_true, Bool.not_eq_false, beq_iff_eq, bne_iff_ne, beq_eq_false_iff_ne, bne_eq_false_iff_eq, Int.not_lt, Int.not_le, ge_iff_le, gt_iff_lt, not_and, ne_eq, Decidable.not_not] at hc'
  all_goals (try (dsimp only [st, setL, AV.cells, List.set_cons_zero, List.set_cons_succ, List.drop_zero, List.drop_succ_cons, List.take_zero, List.take_succ_cons, Nat.zero_add, Nat.add_zero, Nat.reduceAdd, List.cons_append, List.nil_append, List.eraseIdx_cons_zero, List.eraseIdx_cons_succ]))
  all_goals (refine W ?_)
  · obtain ⟨v, hv, hvm, _⟩ := drop_at (l := p.outs) h0 hc'
    have hvb := of_decide_eq_true (List.all_eq_true.1 h6 v hvm)
    obtain ⟨u, hu, _, _⟩ := drop_at (l := ua) hvb.1 (by omega)
    have hE := getD_get (ll := expsE p) (i := v.toNat) (by omega)
    have hrl := exps_row hf h1 (v := v.toNat) (by omega)
    refine LS_ix (fun h' HL => ho.le HL.le) enI1 hv h0 rfl rfl fun q1 o1 hrow1 => ?_
    try (dsimp only [st, setL, AV.cells, List.set_cons_zero, List.set_cons_succ, List.drop_zero, List.drop_succ_cons, List.take_zero, List.take_succ_cons, Nat.zero_add, Nat.add_zero, Nat.reduceAdd, List.cons_append, List.nil_append, List.eraseIdx_cons_zero, List.eraseIdx_cons_succ])
    refine W ?_
    refine LS_ix (fun h' HL => HL.rdM (List.mem_cons_of_mem _ (List.mem_append_right _ (List.mem_append_left _ (List.mem_cons_self)))) enV1 (by decide)) enV1 hu hvb.1 rfl rfl fun q2 o2 hrow2 => ?_
    try (dsimp only [st, setL, AV.cells, List.set_cons_zero, List.set_cons_succ, List.drop_zero, List.drop_succ_cons, List.take_zero, List.take_succ_cons, Nat.zero_add, Nat.add_zero, Nat.reduceAdd, List.cons_append, List.nil_append, List.eraseIdx_cons_zero, List.eraseIdx_cons_succ])
    refine W ?_
    refine LS_co (fun h' HL wf => Clone_int_ac ((expsE p).getD v.toNat []) u h' (HL.rdM (List.mem_cons_of_mem _ (List.mem_append_right _ (List.mem_append_left _ (List.mem_cons_of_mem _ (List.mem_append_left _ (rowsI_get hu hE)))))) enI1 (by decide)) (by omega)) enI1 rfl rfl fun w1 lw1 sw1 => ?_
    try (dsimp only [st, setL, AV.cells, List.set_cons_zero, List.set_cons_succ, List.drop_zero, List.drop_succ_cons, List.take_zero, List.take_succ_cons, Nat.zero_add, Nat.add_zero, Nat.reduceAdd, List.cons_append, List.nil_append, List.eraseIdx_cons_zero, List.eraseIdx_cons_succ])
    refine W ?_
    refine LS_ltV rfl rfl sw1 rfl fun lit hlit slit => ?_
    try (dsimp only [st, setL, AV.cells, List.set_cons_zero, List.set_cons_succ, List.drop_zero, List.drop_succ_cons, List.take_zero, List.take_succ_cons, Nat.zero_add, Nat.add_zero, Nat.reduceAdd, List.cons_append, List.nil_append, List.eraseIdx_cons_zero, List.eraseIdx_cons_succ])
    refine W ?_
    refine LS_ap 2 rfl (fun h' HL => HL.rdI 0 rfl enV1 (by decide)) enV1 (by decide) (by simp) (by simp; omega) (by simp; omega) rfl rfl rfl fun w hw sw => ?_
    try (dsimp only [st, setL, AV.cells, List.set_cons_zero, List.set_cons_succ, List.drop_zero, List.drop_succ_cons, List.take_zero, List.take_succ_cons, Nat.zero_add, Nat.add_zero, Nat.reduceAdd, List.cons_append, List.nil_append, List.eraseIdx_cons_zero, List.eraseIdx_cons_succ])
    refine W ?_
    refine LIL_drop 1 (LIL_push [_] hul ?_)
    refine IH (k - 1) _ _ (by omega) ⟨w, i + 1, us ++ [w1], exJ rfl, by rw [toNat_succ h0, outE_snoc hv]; rfl, by rw [toNat_succ h0]; simp [hus], by omega, by omega, hw, sw⟩
  · rw [show i.toNat = p.outs.length by omega, List.take_length] at hul ⊢
    refine RET fun h' HL => ?_
    try dsimp only [oneA]
    exact ⟨_, ⟨us, hul, lo, so, rfl⟩, HL.sub (.cons_cons _ (List.Sublist.append (List.Sublist.refl _) (List.nil_sublist _)))⟩

def oexL (p : PlanM) : List (List Int) := if planOk p = true then outE p p.outs else []

theorem OutputExponents_ac (p : PlanM) (v : AV) (h : AH) (hR : PlR h v p) (hw : PSm p) :
    AC Try.prog 9 [v] h (fun r h' => ∃ M, (∃ w us, r = .tup [w, .b (planOk p)] ∧ us.length = (oexL p).length ∧ lenA w = some us.length ∧ w.sc = true ∧ M = ssI w us (oexL p)) ∧ Loq h h' M) := by
  have hR0 := hR
  obtain ⟨vs, vo, rfl, hs, ho⟩ := hR
  refine e9 _ fun wf => ?_
  unfold c9
  refine LI_start wf ?_
  refine W ?_
  refine LS_bxn rfl (sc_cons rfl (sc_cons (rd_sc hs) (sc_cons (rd_sc ho) rfl))) fun b1 => ?_
  try (dsimp only [st, setL, AV.cells, List.set_cons_zero, List.set_cons_succ, List.drop_zero, List.drop_succ_cons, List.take_zero, List.take_succ_cons, Nat.zero_add, Nat.add_zero, Nat.reduceAdd, List.cons_append, List.nil_append, List.eraseIdx_cons_zero, List.eraseIdx_cons_succ])
  refine W ?_
  refine LS_c0 (fun h' HL wf => isPlan_ac p _ h' (hR0.le HL.le) hw) rfl rfl ?_
  try (dsimp only [st, setL, AV.cells, List.set_cons_zero, List.set_cons_succ, List.drop_zero, List.drop_succ_cons, List.take_zero, List.take_succ_cons, Nat.zero_add, Nat.add_zero, Nat.reduceAdd, List.cons_append, List.nil_append, List.eraseIdx_cons_zero, List.eraseIdx_cons_succ])
  refine W ?_
  cases hk : planOk p
  · first | (refine LS_gyH rfl (rfl) ?_; intro hg) | (refine LI_cond_tH rfl (rfl) ?_; intro hg)
    refine W ?_
    rw [oexL, hk, if_neg (by simp)]
    refine RET fun h' HL => ?_
    try dsimp only [oneA]
    exact ⟨_, ⟨.ns, [], rfl, rfl, rfl, rfl, rfl⟩, loq_ns (HL.sub (List.nil_sublist _)) 1⟩
  · first | (refine LS_gtnH rfl (rfl) ?_; intro hg; try (dsimp only [st, setL, AV.cells, List.set_cons_zero, List.set_cons_succ, List.drop_zero, List.drop_succ_cons, List.take_zero, List.take_succ_cons, Nat.zero_add, Nat.add_zero, Nat.reduceAdd, List.cons_append, List.nil_append, List.eraseIdx_cons_zero, List.eraseIdx_cons_succ])) | (refine LS_gfnH rfl (rfl) ?_; intro hg; try (dsimp only [st, setL, AV.cells, List.set_cons_zero, List.set_cons_succ, List.drop_zero, List.drop_succ_cons, List.take_zero, List.take_succ_cons, Nat.zero_add, Nat.add_zero, Nat.reduceAdd, List.cons_append, List.nil_append, List.eraseIdx_cons_zero, List.eraseIdx_cons_succ])) | (refine LI_cond_fH rfl (rfl) ?_; intro hg)
    refine W ?_
    rw [oexL, hk, if_pos rfl]
    refine LS_c1 (fun h' HL wf => outputExponents_ac p b1 vs vo h' ⟨HL.rowsP 0 rfl (Nat.le_refl 3) rfl, hs.le HL.le, ho.le HL.le⟩ hk) rfl rfl ?_
    try (dsimp only [st, setL, AV.cells, List.set_cons_zero, List.set_cons_succ, List.drop_zero, List.drop_succ_cons, List.take_zero, List.take_succ_cons, Nat.zero_add, Nat.add_zero, Nat.reduceAdd, List.cons_append, List.nil_append, List.eraseIdx_cons_zero, List.eraseIdx_cons_succ])
    refine W ?_
    rintro w _ ⟨us, hus, lw, sw, rfl⟩
    try (dsimp only [st, setL, AV.cells, List.set_cons_zero, List.set_cons_succ, List.drop_zero, List.drop_succ_cons, List.take_zero, List.take_succ_cons, Nat.zero_add, Nat.add_zero, Nat.reduceAdd, List.cons_append, List.nil_append, List.eraseIdx_cons_zero, List.eraseIdx_cons_succ])
    refine W ?_
    refine RET fun h' HL => ?_
    try dsimp only [oneA]
    exact ⟨_, ⟨w, us, rfl, hus, lw, sw, rfl⟩, HL.sub (List.sublist_append_left _ _)⟩

theorem outE_get {p : PlanM} {k : Nat} {v : Int} (h : p.outs[k]? = some v) : (outE p p.outs)[k]? = some ((expsE p).getD v.toNat []) := by simp [outE, h]

theorem row_get2 {p : PlanM} (hk : planOk p = true) {v i : Nat} (hv : v < p.n.toNat + p.steps.length) (hi : i < p.n.toNat) : ((expsE p).getD v [])[i]? = some (colE p i v) := by
  obtain ⟨h1, h2, h3, h4, hf, h6⟩ := planOk_out hk
  have := exps_row hf h1 hv
  rw [colE]
  exact getD_g0 (by omega)

theorem out_in {p : PlanM} (hk : planOk p = true) {v : Int} (hv : v ∈ p.outs) : 0 ≤ v ∧ v.toNat < p.n.toNat + p.steps.length := by
  obtain ⟨h1, h2, h3, h4, hf, h6⟩ := planOk_out hk
  have := of_decide_eq_true (List.all_eq_true.1 h6 v hv)
  omega

/-! ### The law of runs of residues -/
theorem pickG_len {α : Type} {l : List α} : ∀ {ix : List Int}, (∀ j ∈ ix, 0 ≤ j ∧ j < l.length) → (pickM l ix).length = ix.length
  | [], _ => rfl
  | j :: ix, hb => by
    have := hb j (by simp)
    have ih := pickG_len (l := l) (ix := ix) (fun j hj => hb j (by simp [hj]))
    rw [pickM] at ih ⊢
    rw [List.filterMap_cons, List.getElem?_eq_getElem (show j.toNat < l.length by omega)]
    simpa using ih

theorem pickG_get {α : Type} {l : List α} : ∀ {ix : List Int} {k : Nat} {i : Int}, (∀ j ∈ ix, 0 ≤ j ∧ j < l.length) → ix[k]? = some i → (pickM l ix)[k]? = l[i.toNat]?
  | [], k, i, _, h => by simp at h
  | j :: ix, 0, i, hb, h => by
    simp at h; subst h
    have := hb j (by simp)
    rw [pickM, List.filterMap_cons, List.getElem?_eq_getElem (show j.toNat < l.length by omega)]
    rfl
  | j :: ix, k + 1, i, hb, h => by
    have := hb j (by simp)
    have ih := pickG_get (l := l) (ix := ix) (k := k) (i := i) (fun j hj => hb j (by simp [hj])) (by simpa using h)
    rw [pickM] at ih ⊢
    rw [List.filterMap_cons, List.getElem?_eq_getElem (show j.toNat < l.length by omega)]
    simpa using ih

/-! ### The law of runs of matrices -/
theorem rmOk_out {p : PlanM} {m : Int} {l : List MatM} (h : rmOk p m l = true) : planOk p = true ∧ (2 ≤ m ∧ m ≤ 10000) ∧ (l.length : Int) = p.n ∧ ∀ x ∈ l, matOk m x = true := by
  simp only [rmOk, Bool.and_eq_true, decide_eq_true_eq, List.all_eq_true] at h
  exact ⟨h.1, h.2.1, h.2.2.1, h.2.2.2⟩

theorem rmR_at {p : PlanM} {m : Int} {l : List MatM} (h : rmOk p m l = true) {i : Nat} {v : Int} (hv : p.outs[i]? = some v) : (rmR p m l)[i]? = (runM (matMul m) p.steps l)[v.toNat]? := by
  obtain ⟨h1, h2, h3, h4⟩ := rmOk_out h
  rw [rmR, if_pos h]
  exact pickG_get (outs_in h1 h3) hv

theorem rmR_ln {p : PlanM} {m : Int} {l : List MatM} (h : rmOk p m l = true) : (rmR p m l).length = p.outs.length := by
  obtain ⟨h1, h2, h3, h4⟩ := rmOk_out h
  rw [rmR, if_pos h]
  exact pickG_len (outs_in h1 h3)

theorem tmod_abs {x m : Int} (hm : 2 ≤ m) : -m < x.tmod m ∧ x.tmod m < m := by
  refine ⟨?_, Int.tmod_lt_of_pos x (by omega)⟩
  have := Int.tmod_lt_of_pos (-x) (show 0 < m by omega)
  rw [Int.neg_tmod] at this
  omega

theorem run_mpow {p : PlanM} (hk : planOk p = true) (h1 : p.n = 1) {m : Int} (hm : 2 ≤ m ∧ m ≤ 10000) {x q : MatM} (hx : matOk m x = true) {v : Nat} (hv : v < p.n.toNat + p.steps.length) (hq : (runM (matMul m) p.steps [x])[v]? = some q) : mpowM m (colE p 0 v) x = (q, true) := by
  have rx := redM_of hx
  have hb : 0 ≤ colE p 0 v ∧ colE p 0 v ≤ 1000000 := exps_bd hk hv (i := 0) (by omega)
  rw [run_pw hk h1 hm.1 rx v hv] at hq
  cases hq
  have hok : mpowOk m (colE p 0 v) x = true := by
    simp only [mpowOk, Bool.and_eq_true, decide_eq_true_eq]
    exact ⟨hm, hx, hb⟩
  rw [mpowM_ok hok, show matI = ⟨1, 0, 0, 1⟩ from rfl, matPow_eq hm.1 _ _ _ _ rx (idM_red hm.1) hb.1 (by omega), (matMul_id hm.1 (pwM_red hm.1 rx _)).1]
  rfl

theorem map_snoc {α β : Type} {f : α → β} {l : List α} {i : Nat} {x : α} (h : l[i]? = some x) : (l.take (i + 1)).map f = (l.take i).map f ++ [f x] := by rw [take_snoc h, List.map_append]; rfl
end Go.Proofs.Ytinnajihcpldlaa
