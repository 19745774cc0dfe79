/- The walk of the law FnStarChecks, part 1: what each function that it reaches computes. -/
import Derived.Test.YtlgjakoeogpjlaaCFnStarChecks
namespace Go.Proofs.Ytlgjakoeogpjlaa
open Go.AL
set_option linter.unusedVariables false
set_option linter.unusedSimpArgs false
set_option maxRecDepth 100000
set_option maxHeartbeats 1000000
attribute [local irreducible] AS AI AIL OpR AC CW AWP ALoop LS LI LIL LThen LLoop LBlk LRet Lh AX OpV OpF

theorem nf {b : Bool} (h : (!b) = false) : b = true := by cases b <;> simp_all

theorem nt {b : Bool} (h : (!b) = true) : b = false := by cases b <;> simp_all

theorem in_ac (n lo hi : Int) (h : AH) : AC Try.prog 65 [.i .i64 n, .i .i64 lo, .i .i64 hi] h (fun v h' => v = .b (decide (lo ≤ n ∧ n ≤ hi)) ∧ h = h') := by
  refine e65 _ _ _ fun wf => ?_
  unfold c65
  repeat (first | refine AI_seqk fun K hK => ?_ | refine AI_reg ?_ | ((first | refine wmv rfl ?_ | refine wag rfl ?_ | refine war _ rfl rfl rfl (by omega) (by omega) ?_ | refine wbn rfl rfl rfl ?_ | refine wnt rfl ?_ | refine wex rfl rfl ?_ | refine wpt rfl (by first | assumption | with_reducible rfl) rfl ?_ | refine wpf rfl (by first | assumption | with_reducible rfl) rfl ?_ | refine wpb rfl rfl rfl ?_ | refine wmf rfl ?_ | refine wnc rfl ?_ | refine wbq Try.underlying4 rfl rfl _ (.inr ⟨rfl, rfl⟩) ?_ | refine wbq Try.underlying4 rfl rfl _ (.inl ⟨rfl, rfl⟩) ?_); try dsimp only [st, List.set_cons_zero, List.set_cons_succ]) | ((first | refine AS_nil ?_ | refine AI_skip ?_ | refine AI_exit ?_); try simp only [AThen, ABlk, reduceIte, reduceCtorEq]) | ((first | refine hK _ _ ?_ | ((first | clear hK K | clear IH hK K); refine hK _ _ ?_) | ((first | clear hK K | clear IH hK K); (first | clear hK K | clear IH hK K); refine hK _ _ ?_) | ((first | clear hK K | clear IH hK K); (first | clear hK K | clear IH hK K); (first | clear hK K | clear IH hK K); refine hK _ _ ?_)); try (first | clear hK K | clear IH hK K)) | refine AI_cond_t rfl (by first | assumption | with_reducible rfl) ?_ | refine AI_cond_f rfl (by first | assumption | with_reducible rfl) ?_ | refine AS_gy rfl (by first | assumption | with_reducible rfl) ?_ | refine AS_gtn rfl (by first | assumption | with_reducible rfl) ?_ | refine AS_gfn rfl (by first | assumption | with_reducible rfl) ?_ | refine AI_block (AI_loop ?_) | refine AI_block ?_ | refine AI_ret ⟨_, rfl, ?_⟩)
  (first | refine AS_gt rfl ?_ ?_ | refine AS_gf rfl ?_ ?_ | refine AI_cond rfl ?_ ?_) <;> intro hc <;> have hc' := hc <;> try simp only [decide_eq_true_eq, decide_eq_false_iff_not, Bool.not_eq_true', Bool.not_eq_false', Bool.not_eq_true, Bool.not_eq_false, beq_iff_eq, bne_iff_ne, beq_eq_false_iff_ne, bne_eq_false_iff_eq, Int.not_lt, Int.not_le, ge_iff_le, gt_iff_lt, not_and, ne_eq, Decidable.not_not] at hc'
  all_goals
    repeat (first | refine AI_seqk fun K hK => ?_ | refine AI_reg ?_ | ((first | refine wmv rfl ?_ | refine wag rfl ?_ | refine war _ rfl rfl rfl (by omega) (by omega) ?_ | refine wbn rfl rfl rfl ?_ | refine wnt rfl ?_ | refine wex rfl rfl ?_ | refine wpt rfl (by first | assumption | with_reducible rfl) rfl ?_ | refine wpf rfl (by first | assumption | with_reducible rfl) rfl ?_ | refine wpb rfl rfl rfl ?_ | refine wmf rfl ?_ | refine wnc rfl ?_ | refine wbq Try.underlying4 rfl rfl _ (.inr ⟨rfl, rfl⟩) ?_ | refine wbq Try.underlying4 rfl rfl _ (.inl ⟨rfl, rfl⟩) ?_); try dsimp only [st, List.set_cons_zero, List.set_cons_succ]) | ((first | refine AS_nil ?_ | refine AI_skip ?_ | refine AI_exit ?_); try simp only [AThen, ABlk, reduceIte, reduceCtorEq]) | ((first | refine hK _ _ ?_ | ((first | clear hK K | clear IH hK K); refine hK _ _ ?_) | ((first | clear hK K | clear IH hK K); (first | clear hK K | clear IH hK K); refine hK _ _ ?_) | ((first | clear hK K | clear IH hK K); (first | clear hK K | clear IH hK K); (first | clear hK K | clear IH hK K); refine hK _ _ ?_)); try (first | clear hK K | clear IH hK K)) | refine AI_cond_t rfl (by first | assumption | with_reducible rfl) ?_ | refine AI_cond_f rfl (by first | assumption | with_reducible rfl) ?_ | refine AS_gy rfl (by first | assumption | with_reducible rfl) ?_ | refine AS_gtn rfl (by first | assumption | with_reducible rfl) ?_ | refine AS_gfn rfl (by first | assumption | with_reducible rfl) ?_ | refine AI_block (AI_loop ?_) | refine AI_block ?_ | refine AI_ret ⟨_, rfl, ?_⟩)
  · exact ⟨by simp [hc', oneA], rfl⟩
  · exact ⟨by first | (simp [oneA, hc']; done) | (simp [oneA, hc']; omega), rfl⟩

theorem l1In_ac (n lo hi : Int) (h : AH) : AC Try.prog 62 [.i .i64 n, .i .i64 lo, .i .i64 hi] h (fun v h' => v = .b (decide (lo ≤ n ∧ n ≤ hi)) ∧ h = h') := by
  refine e62 _ _ _ fun wf => ?_
  unfold c62
  repeat (first | refine AI_seqk fun K hK => ?_ | refine AI_reg ?_ | ((first | refine wmv rfl ?_ | refine wag rfl ?_ | refine war _ rfl rfl rfl (by omega) (by omega) ?_ | refine wbn rfl rfl rfl ?_ | refine wnt rfl ?_ | refine wex rfl rfl ?_ | refine wpt rfl (by first | assumption | with_reducible rfl) rfl ?_ | refine wpf rfl (by first | assumption | with_reducible rfl) rfl ?_ | refine wpb rfl rfl rfl ?_ | refine wmf rfl ?_ | refine wnc rfl ?_ | refine wbq Try.underlying4 rfl rfl _ (.inr ⟨rfl, rfl⟩) ?_ | refine wbq Try.underlying4 rfl rfl _ (.inl ⟨rfl, rfl⟩) ?_); try dsimp only [st, List.set_cons_zero, List.set_cons_succ]) | ((first | refine AS_nil ?_ | refine AI_skip ?_ | refine AI_exit ?_); try simp only [AThen, ABlk, reduceIte, reduceCtorEq]) | ((first | refine hK _ _ ?_ | ((first | clear hK K | clear IH hK K); refine hK _ _ ?_) | ((first | clear hK K | clear IH hK K); (first | clear hK K | clear IH hK K); refine hK _ _ ?_) | ((first | clear hK K | clear IH hK K); (first | clear hK K | clear IH hK K); (first | clear hK K | clear IH hK K); refine hK _ _ ?_)); try (first | clear hK K | clear IH hK K)) | refine AI_cond_t rfl (by first | assumption | with_reducible rfl) ?_ | refine AI_cond_f rfl (by first | assumption | with_reducible rfl) ?_ | refine AS_gy rfl (by first | assumption | with_reducible rfl) ?_ | refine AS_gtn rfl (by first | assumption | with_reducible rfl) ?_ | refine AS_gfn rfl (by first | assumption | with_reducible rfl) ?_ | refine AI_block (AI_loop ?_) | refine AI_block ?_ | refine AI_ret ⟨_, rfl, ?_⟩)
  (first | refine AS_gt rfl ?_ ?_ | refine AS_gf rfl ?_ ?_ | refine AI_cond rfl ?_ ?_) <;> intro hc <;> have hc' := hc <;> try simp only [decide_eq_true_eq, decide_eq_false_iff_not, Bool.not_eq_true', Bool.not_eq_false', Bool.not_eq_true, Bool.not_eq_false, beq_iff_eq, bne_iff_ne, beq_eq_false_iff_ne, bne_eq_false_iff_eq, Int.not_lt, Int.not_le, ge_iff_le, gt_iff_lt, not_and, ne_eq, Decidable.not_not] at hc'
  all_goals
    repeat (first | refine AI_seqk fun K hK => ?_ | refine AI_reg ?_ | ((first | refine wmv rfl ?_ | refine wag rfl ?_ | refine war _ rfl rfl rfl (by omega) (by omega) ?_ | refine wbn rfl rfl rfl ?_ | refine wnt rfl ?_ | refine wex rfl rfl ?_ | refine wpt rfl (by first | assumption | with_reducible rfl) rfl ?_ | refine wpf rfl (by first | assumption | with_reducible rfl) rfl ?_ | refine wpb rfl rfl rfl ?_ | refine wmf rfl ?_ | refine wnc rfl ?_ | refine wbq Try.underlying4 rfl rfl _ (.inr ⟨rfl, rfl⟩) ?_ | refine wbq Try.underlying4 rfl rfl _ (.inl ⟨rfl, rfl⟩) ?_); try dsimp only [st, List.set_cons_zero, List.set_cons_succ]) | ((first | refine AS_nil ?_ | refine AI_skip ?_ | refine AI_exit ?_); try simp only [AThen, ABlk, reduceIte, reduceCtorEq]) | ((first | refine hK _ _ ?_ | ((first | clear hK K | clear IH hK K); refine hK _ _ ?_) | ((first | clear hK K | clear IH hK K); (first | clear hK K | clear IH hK K); refine hK _ _ ?_) | ((first | clear hK K | clear IH hK K); (first | clear hK K | clear IH hK K); (first | clear hK K | clear IH hK K); refine hK _ _ ?_)); try (first | clear hK K | clear IH hK K)) | refine AI_cond_t rfl (by first | assumption | with_reducible rfl) ?_ | refine AI_cond_f rfl (by first | assumption | with_reducible rfl) ?_ | refine AS_gy rfl (by first | assumption | with_reducible rfl) ?_ | refine AS_gtn rfl (by first | assumption | with_reducible rfl) ?_ | refine AS_gfn rfl (by first | assumption | with_reducible rfl) ?_ | refine AI_block (AI_loop ?_) | refine AI_block ?_ | refine AI_ret ⟨_, rfl, ?_⟩)
  · exact ⟨by simp [hc', oneA], rfl⟩
  · exact ⟨by first | (simp [oneA, hc']; done) | (simp [oneA, hc']; omega), rfl⟩

/-- The first place from i on. -/
def idxFrom {α : Type} (p : α → Bool) : List α → Int → Int
  | [], _ => -1
  | x :: l, i => if p x then i else idxFrom p l (i + 1)

theorem idxFrom_any {α : Type} (p : α → Bool) : ∀ (l : List α) (i : Int), 0 ≤ i → (decide (0 ≤ idxFrom p l i)) = l.any p
  | [], i, _ => by simp [idxFrom]
  | x :: l, i, h => by
    cases hp : p x <;> simp [idxFrom, hp, h]
    rw [← idxFrom_any p l (i + 1) (by omega)]

theorem drop_at {α : Type} {l : List α} {i : Int} (h0 : 0 ≤ i) (h1 : i < l.length) : ∃ y, l[i.toNat]? = some y ∧ y ∈ l ∧ l.drop i.toNat = y :: l.drop (i.toNat + 1) := by
  have hlt : i.toNat < l.length := by omega
  exact ⟨l[i.toNat], List.getElem?_eq_getElem hlt, List.getElem_mem hlt, List.drop_eq_getElem_cons hlt⟩

theorem toNat_succ {i : Int} (h0 : 0 ≤ i) : (i + 1).toNat = i.toNat + 1 := by omega

theorem l1All_ac (l : List Int) (v : AV) (lo hi : Int) (h : AH) (hR : Rd h v l) (hl : l.length ≤ 4611686018427387904) :
    AC Try.prog 76 [v, .i .i64 lo, .i .i64 hi] h (fun r h' => r = .b (l.all fun x => decide (lo ≤ x ∧ x ≤ hi)) ∧ h = h') := by
  refine e76 _ _ _ fun wf => ?_
  unfold c76
  repeat (first | refine AI_seqk fun K hK => ?_ | refine AI_reg ?_ | ((first | refine wmv rfl ?_ | refine wag rfl ?_ | refine war _ rfl rfl rfl (by omega) (by omega) ?_ | refine wbn rfl rfl rfl ?_ | refine wnt rfl ?_ | refine wex rfl rfl ?_ | refine wpt rfl (by first | assumption | with_reducible rfl) rfl ?_ | refine wpf rfl (by first | assumption | with_reducible rfl) rfl ?_ | refine wpb rfl rfl rfl ?_ | refine wmf rfl ?_ | refine wnc rfl ?_ | refine wbq Try.underlying4 rfl rfl _ (.inr ⟨rfl, rfl⟩) ?_ | refine wbq Try.underlying4 rfl rfl _ (.inl ⟨rfl, rfl⟩) ?_); try dsimp only [st, List.set_cons_zero, List.set_cons_succ]) | ((first | refine AS_nil ?_ | refine AI_skip ?_ | refine AI_exit ?_); try simp only [AThen, ABlk, reduceIte, reduceCtorEq]) | ((first | refine hK _ _ ?_ | ((first | clear hK K | clear IH hK K); refine hK _ _ ?_) | ((first | clear hK K | clear IH hK K); (first | clear hK K | clear IH hK K); refine hK _ _ ?_) | ((first | clear hK K | clear IH hK K); (first | clear hK K | clear IH hK K); (first | clear hK K | clear IH hK K); refine hK _ _ ?_)); try (first | clear hK K | clear IH hK K)) | refine AI_cond_t rfl (by first | assumption | with_reducible rfl) ?_ | refine AI_cond_f rfl (by first | assumption | with_reducible rfl) ?_ | refine AS_gy rfl (by first | assumption | with_reducible rfl) ?_ | refine AS_gtn rfl (by first | assumption | with_reducible rfl) ?_ | refine AS_gfn rfl (by first | assumption | with_reducible rfl) ?_ | refine AI_block (AI_loop ?_) | refine AI_block ?_ | refine AI_ret ⟨_, rfl, ?_⟩)
  refine AS_op (OpR_lenA Try.underlying22 rfl hR.len ?_)
  try (dsimp only [st, setL, AV.cells, List.set_cons_zero, List.set_cons_succ, List.drop_zero, List.drop_succ_cons, List.take_zero, List.take_succ_cons, Nat.zero_add, Nat.add_zero, Nat.reduceAdd, List.cons_append, List.nil_append, List.eraseIdx_cons_zero, List.eraseIdx_cons_succ])
  repeat (first | refine AI_seqk fun K hK => ?_ | refine AI_reg ?_ | ((first | refine wmv rfl ?_ | refine wag rfl ?_ | refine war _ rfl rfl rfl (by omega) (by omega) ?_ | refine wbn rfl rfl rfl ?_ | refine wnt rfl ?_ | refine wex rfl rfl ?_ | refine wpt rfl (by first | assumption | with_reducible rfl) rfl ?_ | refine wpf rfl (by first | assumption | with_reducible rfl) rfl ?_ | refine wpb rfl rfl rfl ?_ | refine wmf rfl ?_ | refine wnc rfl ?_ | refine wbq Try.underlying4 rfl rfl _ (.inr ⟨rfl, rfl⟩) ?_ | refine wbq Try.underlying4 rfl rfl _ (.inl ⟨rfl, rfl⟩) ?_); try dsimp only [st, List.set_cons_zero, List.set_cons_succ]) | ((first | refine AS_nil ?_ | refine AI_skip ?_ | refine AI_exit ?_); try simp only [AThen, ABlk, reduceIte, reduceCtorEq]) | ((first | refine hK _ _ ?_ | ((first | clear hK K | clear IH hK K); refine hK _ _ ?_) | ((first | clear hK K | clear IH hK K); (first | clear hK K | clear IH hK K); refine hK _ _ ?_) | ((first | clear hK K | clear IH hK K); (first | clear hK K | clear IH hK K); (first | clear hK K | clear IH hK K); refine hK _ _ ?_)); try (first | clear hK K | clear IH hK K)) | refine AI_cond_t rfl (by first | assumption | with_reducible rfl) ?_ | refine AI_cond_f rfl (by first | assumption | with_reducible rfl) ?_ | refine AS_gy rfl (by first | assumption | with_reducible rfl) ?_ | refine AS_gtn rfl (by first | assumption | with_reducible rfl) ?_ | refine AS_gfn rfl (by first | assumption | with_reducible rfl) ?_ | refine AI_block (AI_loop ?_) | refine AI_block ?_ | refine AI_ret ⟨_, rfl, ?_⟩)
  refine AIL_ind (fun (n : Nat) a h' => ∃ (i : Int) (x8 : AV), (∃ r : Nat → AV, a = [v, .i .i64 lo, .i .i64 hi, un, un, un, .b false, un, x8, v, .i .i64 l.length, .i .i64 i, r 12, r 13, r 14, r 15, r 16, r 17, r 18, r 19, r 20]) ∧ 0 ≤ i ∧ i + n = l.length ∧ h = h' ∧
      l.all (fun x => decide (lo ≤ x ∧ x ≤ hi)) = (l.drop i.toNat).all fun x => decide (lo ≤ x ∧ x ≤ hi))
    ?_ l.length _ _ ⟨0, _, exJ rfl, by omega, by omega, rfl, rfl⟩
  rintro n a h' ⟨i, x8, ⟨r, rfl⟩, h0, hn, rfl, heq⟩ IH
  repeat (first | refine AI_seqk fun K hK => ?_ | refine AI_reg ?_ | ((first | refine wmv rfl ?_ | refine wag rfl ?_ | refine war _ rfl rfl rfl (by omega) (by omega) ?_ | refine wbn rfl rfl rfl ?_ | refine wnt rfl ?_ | refine wex rfl rfl ?_ | refine wpt rfl (by first | assumption | with_reducible rfl) rfl ?_ | refine wpf rfl (by first | assumption | with_reducible rfl) rfl ?_ | refine wpb rfl rfl rfl ?_ | refine wmf rfl ?_ | refine wnc rfl ?_ | refine wbq Try.underlying4 rfl rfl _ (.inr ⟨rfl, rfl⟩) ?_ | refine wbq Try.underlying4 rfl rfl _ (.inl ⟨rfl, rfl⟩) ?_); try dsimp only [st, List.set_cons_zero, List.set_cons_succ]) | ((first | refine AS_nil ?_ | refine AI_skip ?_ | refine AI_exit ?_); try simp only [AThen, ABlk, reduceIte, reduceCtorEq]) | ((first | refine hK _ _ ?_ | ((first | clear hK K | clear IH hK K); refine hK _ _ ?_) | ((first | clear hK K | clear IH hK K); (first | clear hK K | clear IH hK K); refine hK _ _ ?_) | ((first | clear hK K | clear IH hK K); (first | clear hK K | clear IH hK K); (first | clear hK K | clear IH hK K); refine hK _ _ ?_)); try (first | clear hK K | clear IH hK K)) | refine AI_cond_t rfl (by first | assumption | with_reducible rfl) ?_ | refine AI_cond_f rfl (by first | assumption | with_reducible rfl) ?_ | refine AS_gy rfl (by first | assumption | with_reducible rfl) ?_ | refine AS_gtn rfl (by first | assumption | with_reducible rfl) ?_ | refine AS_gfn rfl (by first | assumption | with_reducible rfl) ?_ | refine AI_block (AI_loop ?_) | refine AI_block ?_ | refine AI_ret ⟨_, rfl, ?_⟩)
  (first | refine AS_gt rfl ?_ ?_ | refine AS_gf rfl ?_ ?_ | refine AI_cond rfl ?_ ?_) <;> intro hc <;> have hc' := hc <;> try simp only [decide_eq_true_eq, decide_eq_false_iff_not, Bool.not_eq_true', Bool.not_eq_false', Bool.not_eq_true, Bool.not_eq_false, beq_iff_eq, bne_iff_ne, beq_eq_false_iff_ne, bne_eq_false_iff_eq, Int.not_lt, Int.not_le, ge_iff_le, gt_iff_lt, not_and, ne_eq, Decidable.not_not] at hc'
  all_goals
    repeat (first | refine AI_seqk fun K hK => ?_ | refine AI_reg ?_ | ((first | refine wmv rfl ?_ | refine wag rfl ?_ | refine war _ rfl rfl rfl (by omega) (by omega) ?_ | refine wbn rfl rfl rfl ?_ | refine wnt rfl ?_ | refine wex rfl rfl ?_ | refine wpt rfl (by first | assumption | with_reducible rfl) rfl ?_ | refine wpf rfl (by first | assumption | with_reducible rfl) rfl ?_ | refine wpb rfl rfl rfl ?_ | refine wmf rfl ?_ | refine wnc rfl ?_ | refine wbq Try.underlying4 rfl rfl _ (.inr ⟨rfl, rfl⟩) ?_ | refine wbq Try.underlying4 rfl rfl _ (.inl ⟨rfl, rfl⟩) ?_); try dsimp only [st, List.set_cons_zero, List.set_cons_succ]) | ((first | refine AS_nil ?_ | refine AI_skip ?_ | refine AI_exit ?_); try simp only [AThen, ABlk, reduceIte, reduceCtorEq]) | ((first | refine hK _ _ ?_ | ((first | clear hK K | clear IH hK K); refine hK _ _ ?_) | ((first | clear hK K | clear IH hK K); (first | clear hK K | clear IH hK K); refine hK _ _ ?_) | ((first | clear hK K | clear IH hK K); (first | clear hK K | clear IH hK K); (first | clear hK K | clear IH hK K); refine hK _ _ ?_)); try (first | clear hK K | clear IH hK K)) | refine AI_cond_t rfl (by first | assumption | with_reducible rfl) ?_ | refine AI_cond_f rfl (by first | assumption | with_reducible rfl) ?_ | refine AS_gy rfl (by first | assumption | with_reducible rfl) ?_ | refine AS_gtn rfl (by first | assumption | with_reducible rfl) ?_ | refine AS_gfn rfl (by first | assumption | with_reducible rfl) ?_ | refine AI_block (AI_loop ?_) | refine AI_block ?_ | refine AI_ret ⟨_, rfl, ?_⟩)
  · obtain ⟨y, hy, _, hdrop⟩ := drop_at h0 hc'
    rw [hdrop, List.all_cons] at heq
    refine AS_op (OpR_idx Try.underlying22 sz3 rfl rfl hR (fun _ => rfl) h0 hy fun b o hrow => ?_)
    try (dsimp only [st, setL, AV.cells, List.set_cons_zero, List.set_cons_succ, List.drop_zero, List.drop_succ_cons, List.take_zero, List.take_succ_cons, Nat.zero_add, Nat.add_zero, Nat.reduceAdd, List.cons_append, List.nil_append, List.eraseIdx_cons_zero, List.eraseIdx_cons_succ])
    repeat (first | refine AI_seqk fun K hK => ?_ | refine AI_reg ?_ | ((first | refine wmv rfl ?_ | refine wag rfl ?_ | refine war _ rfl rfl rfl (by omega) (by omega) ?_ | refine wbn rfl rfl rfl ?_ | refine wnt rfl ?_ | refine wex rfl rfl ?_ | refine wpt rfl (by first | assumption | with_reducible rfl) rfl ?_ | refine wpf rfl (by first | assumption | with_reducible rfl) rfl ?_ | refine wpb rfl rfl rfl ?_ | refine wmf rfl ?_ | refine wnc rfl ?_ | refine wbq Try.underlying4 rfl rfl _ (.inr ⟨rfl, rfl⟩) ?_ | refine wbq Try.underlying4 rfl rfl _ (.inl ⟨rfl, rfl⟩) ?_); try dsimp only [st, List.set_cons_zero, List.set_cons_succ]) | ((first | refine AS_nil ?_ | refine AI_skip ?_ | refine AI_exit ?_); try simp only [AThen, ABlk, reduceIte, reduceCtorEq]) | ((first | refine hK _ _ ?_ | ((first | clear hK K | clear IH hK K); refine hK _ _ ?_) | ((first | clear hK K | clear IH hK K); (first | clear hK K | clear IH hK K); refine hK _ _ ?_) | ((first | clear hK K | clear IH hK K); (first | clear hK K | clear IH hK K); (first | clear hK K | clear IH hK K); refine hK _ _ ?_)); try (first | clear hK K | clear IH hK K)) | refine AI_cond_t rfl (by first | assumption | with_reducible rfl) ?_ | refine AI_cond_f rfl (by first | assumption | with_reducible rfl) ?_ | refine AS_gy rfl (by first | assumption | with_reducible rfl) ?_ | refine AS_gtn rfl (by first | assumption | with_reducible rfl) ?_ | refine AS_gfn rfl (by first | assumption | with_reducible rfl) ?_ | refine AI_block (AI_loop ?_) | refine AI_block ?_ | refine AI_ret ⟨_, rfl, ?_⟩)
    refine AS_op (OpR_load rfl (loadA_1 ag3 (cell_row hrow)) ?_)
    try (dsimp only [st, setL, AV.cells, List.set_cons_zero, List.set_cons_succ, List.drop_zero, List.drop_succ_cons, List.take_zero, List.take_succ_cons, Nat.zero_add, Nat.add_zero, Nat.reduceAdd, List.cons_append, List.nil_append, List.eraseIdx_cons_zero, List.eraseIdx_cons_succ])
    repeat (first | refine AI_seqk fun K hK => ?_ | refine AI_reg ?_ | ((first | refine wmv rfl ?_ | refine wag rfl ?_ | refine war _ rfl rfl rfl (by omega) (by omega) ?_ | refine wbn rfl rfl rfl ?_ | refine wnt rfl ?_ | refine wex rfl rfl ?_ | refine wpt rfl (by first | assumption | with_reducible rfl) rfl ?_ | refine wpf rfl (by first | assumption | with_reducible rfl) rfl ?_ | refine wpb rfl rfl rfl ?_ | refine wmf rfl ?_ | refine wnc rfl ?_ | refine wbq Try.underlying4 rfl rfl _ (.inr ⟨rfl, rfl⟩) ?_ | refine wbq Try.underlying4 rfl rfl _ (.inl ⟨rfl, rfl⟩) ?_); try dsimp only [st, List.set_cons_zero, List.set_cons_succ]) | ((first | refine AS_nil ?_ | refine AI_skip ?_ | refine AI_exit ?_); try simp only [AThen, ABlk, reduceIte, reduceCtorEq]) | ((first | refine hK _ _ ?_ | ((first | clear hK K | clear IH hK K); refine hK _ _ ?_) | ((first | clear hK K | clear IH hK K); (first | clear hK K | clear IH hK K); refine hK _ _ ?_) | ((first | clear hK K | clear IH hK K); (first | clear hK K | clear IH hK K); (first | clear hK K | clear IH hK K); refine hK _ _ ?_)); try (first | clear hK K | clear IH hK K)) | refine AI_cond_t rfl (by first | assumption | with_reducible rfl) ?_ | refine AI_cond_f rfl (by first | assumption | with_reducible rfl) ?_ | refine AS_gy rfl (by first | assumption | with_reducible rfl) ?_ | refine AS_gtn rfl (by first | assumption | with_reducible rfl) ?_ | refine AS_gfn rfl (by first | assumption | with_reducible rfl) ?_ | refine AI_block (AI_loop ?_) | refine AI_block ?_ | refine AI_ret ⟨_, rfl, ?_⟩)
    refine AS_op (OpR_call rfl rfl (l1In_ac _ _ _ _) ?_)
    rintro _ _ wf1 ⟨rfl, rfl⟩
    try (dsimp only [st, setL, AV.cells, List.set_cons_zero, List.set_cons_succ, List.drop_zero, List.drop_succ_cons, List.take_zero, List.take_succ_cons, Nat.zero_add, Nat.add_zero, Nat.reduceAdd, List.cons_append, List.nil_append, List.eraseIdx_cons_zero, List.eraseIdx_cons_succ])
    repeat (first | refine AI_seqk fun K hK => ?_ | refine AI_reg ?_ | ((first | refine wmv rfl ?_ | refine wag rfl ?_ | refine war _ rfl rfl rfl (by omega) (by omega) ?_ | refine wbn rfl rfl rfl ?_ | refine wnt rfl ?_ | refine wex rfl rfl ?_ | refine wpt rfl (by first | assumption | with_reducible rfl) rfl ?_ | refine wpf rfl (by first | assumption | with_reducible rfl) rfl ?_ | refine wpb rfl rfl rfl ?_ | refine wmf rfl ?_ | refine wnc rfl ?_ | refine wbq Try.underlying4 rfl rfl _ (.inr ⟨rfl, rfl⟩) ?_ | refine wbq Try.underlying4 rfl rfl _ (.inl ⟨rfl, rfl⟩) ?_); try dsimp only [st, List.set_cons_zero, List.set_cons_succ]) | ((first | refine AS_nil ?_ | refine AI_skip ?_ | refine AI_exit ?_); try simp only [AThen, ABlk, reduceIte, reduceCtorEq]) | ((first | refine hK _ _ ?_ | ((first | clear hK K | clear IH hK K); refine hK _ _ ?_) | ((first | clear hK K | clear IH hK K); (first | clear hK K | clear IH hK K); refine hK _ _ ?_) | ((first | clear hK K | clear IH hK K); (first | clear hK K | clear IH hK K); (first | clear hK K | clear IH hK K); refine hK _ _ ?_)); try (first | clear hK K | clear IH hK K)) | refine AI_cond_t rfl (by first | assumption | with_reducible rfl) ?_ | refine AI_cond_f rfl (by first | assumption | with_reducible rfl) ?_ | refine AS_gy rfl (by first | assumption | with_reducible rfl) ?_ | refine AS_gtn rfl (by first | assumption | with_reducible rfl) ?_ | refine AS_gfn rfl (by first | assumption | with_reducible rfl) ?_ | refine AI_block (AI_loop ?_) | refine AI_block ?_ | refine AI_ret ⟨_, rfl, ?_⟩)
    (first | refine AS_gt rfl ?_ ?_ | refine AS_gf rfl ?_ ?_ | refine AI_cond rfl ?_ ?_) <;> intro hc <;> have hc' := hc <;> try simp only [decide_eq_true_eq, decide_eq_false_iff_not, Bool.not_eq_true', Bool.not_eq_false', Bool.not_eq_true, Bool.not_eq_false, beq_iff_eq, bne_iff_ne, beq_eq_false_iff_ne, bne_eq_false_iff_eq, Int.not_lt, Int.not_le, ge_iff_le, gt_iff_lt, not_and, ne_eq, Decidable.not_not] at hc'
    all_goals
      repeat (first | refine AI_seqk fun K hK => ?_ | refine AI_reg ?_ | ((first | refine wmv rfl ?_ | refine wag rfl ?_ | refine war _ rfl rfl rfl (by omega) (by omega) ?_ | refine wbn rfl rfl rfl ?_ | refine wnt rfl ?_ | refine wex rfl rfl ?_ | refine wpt rfl (by first | assumption | with_reducible rfl) rfl ?_ | refine wpf rfl (by first | assumption | with_reducible rfl) rfl ?_ | refine wpb rfl rfl rfl ?_ | refine wmf rfl ?_ | refine wnc rfl ?_ | refine wbq Try.underlying4 rfl rfl _ (.inr ⟨rfl, rfl⟩) ?_ | refine wbq Try.underlying4 rfl rfl _ (.inl ⟨rfl, rfl⟩) ?_); try dsimp only [st, List.set_cons_zero, List.set_cons_succ]) | ((first | refine AS_nil ?_ | refine AI_skip ?_ | refine AI_exit ?_); try simp only [AThen, ABlk, reduceIte, reduceCtorEq]) | ((first | refine hK _ _ ?_ | ((first | clear hK K | clear IH hK K); refine hK _ _ ?_) | ((first | clear hK K | clear IH hK K); (first | clear hK K | clear IH hK K); refine hK _ _ ?_) | ((first | clear hK K | clear IH hK K); (first | clear hK K | clear IH hK K); (first | clear hK K | clear IH hK K); refine hK _ _ ?_)); try (first | clear hK K | clear IH hK K)) | refine AI_cond_t rfl (by first | assumption | with_reducible rfl) ?_ | refine AI_cond_f rfl (by first | assumption | with_reducible rfl) ?_ | refine AS_gy rfl (by first | assumption | with_reducible rfl) ?_ | refine AS_gtn rfl (by first | assumption | with_reducible rfl) ?_ | refine AS_gfn rfl (by first | assumption | with_reducible rfl) ?_ | refine AI_block (AI_loop ?_) | refine AI_block ?_ | refine AI_ret ⟨_, rfl, ?_⟩)
    · refine ⟨?_, rfl⟩
      rw [heq, show decide (lo ≤ y ∧ y ≤ hi) = false by simpa only [Bool.not_eq_true'] using hc]
      rfl
    · refine IH (n - 1) _ _ (by omega) ⟨i + 1, _, exJ rfl, by omega, by omega, rfl, ?_⟩
      rw [heq, toNat_succ h0, show decide (lo ≤ y ∧ y ≤ hi) = true by simpa only [Bool.not_eq_false'] using hc]
      rfl
  · refine ⟨?_, rfl⟩
    rw [heq, List.drop_eq_nil_of_le (by omega)]
    rfl

/-! ### The cursor that draws arguments: what it hands back, within bounds -/
def enU (n : Int) : List AV := [.i .u8 n]

theorem enU1 (x : Int) : (enU x).length = 1 := rfl

theorem and255 (x : Int) : 0 ≤ IntKind.i64.wrap (IntKind.u64.wrap (BitVec.ofInt IntKind.u64.bits x &&& BitVec.ofInt IntKind.u64.bits 255).toNat) ∧ IntKind.i64.wrap (IntKind.u64.wrap (BitVec.ofInt IntKind.u64.bits x &&& BitVec.ofInt IntKind.u64.bits 255).toNat) ≤ 255 := by
  have h : (BitVec.ofInt IntKind.u64.bits x &&& BitVec.ofInt IntKind.u64.bits 255).toNat ≤ 255 := by
    rw [BitVec.toNat_and]
    exact Nat.le_trans Nat.and_le_right (by decide)
  generalize (BitVec.ofInt IntKind.u64.bits x &&& BitVec.ofInt IntKind.u64.bits 255).toNat = k at *
  rw [IntWalk.u64_in _ (by omega), IntWalk.i64_in _ (by omega)]
  omega

theorem next_ac (bc : Nat) (cv : AV) (l : List Int) (ct sd : Int) (h0 h : AH) (L : List It) (HL : Loq h0 h (.pt bc [cv, .i .i64 ct, .i .u64 sd] :: L)) (hcv : RdG 1 enU h0 cv l) (hb : ∀ x ∈ l, 0 ≤ x ∧ x ≤ 255) (h1 : 0 ≤ ct) (h2 : ct ≤ 1099511627776) :
    AC Try.prog 93 [.p bc 0] h (fun r h' => ∃ M, (∃ x sd', r = .i .i64 x ∧ 0 ≤ x ∧ x ≤ 255 ∧ M = .pt bc [cv, .i .i64 (ct + 1), .i .u64 sd'] :: L) ∧ Loq h0 h' M) := by
  have hln := hcv.len
  refine e93 _ fun wf => ?_
  unfold c93
  refine LI_startL HL ?_
  refine W ?_
  refine dz93_0 ?_
  refine WX ?_
  refine W ?_
  refine LI_post (fun a M => ∃ (x : Int), (∃ r : Nat → AV, a = [.p bc 0, r 1, r 2, .i .i64 x, r 4, r 5, r 6, r 7, r 8, r 9, r 10, r 11, r 12, r 13, r 14, r 15, r 16, r 17, r 18, r 19, r 20, r 21, r 22, r 23, r 24, r 25, r 26, r 27, r 28, r 29, r 30, r 31, r 32, r 33, r 34, r 35, r 36, r 37, r 38, r 39, r 40, r 41, r 42, r 43, r 44, r 45, r 46, r 47, r 48, r 49, r 50, r 51, r 52, r 53, r 54, r 55, r 56, r 57, r 58, r 59, r 60, r 61]) ∧ M = .pt bc [cv, .i .i64 ct, .i .u64 sd] :: L ∧ 0 ≤ x ∧ x ≤ 255) ?_ ?_
  · (first | refine LS_gt rfl ?_ ?_ | refine LS_gf rfl ?_ ?_ | refine LI_cond rfl ?_ ?_) <;> intro hc <;> have hc' := hc <;> try simp only [decide_eq_true_eq, decide_eq_false_iff_not, Bool.not_eq_true', Bool.not_eq_false', Bool.not_eq_true, Bool.not_eq_false, beq_iff_eq, bne_iff_ne, beq_eq_false_iff_ne, bne_eq_false_iff_eq, Int.not_lt, Int.not_le, ge_iff_le, gt_iff_lt, not_and, ne_eq, Decidable.not_not] at hc'
    all_goals (try (dsimp only [st, setL, AV.cells, List.set_cons_zero, List.set_cons_succ, List.drop_zero, List.drop_succ_cons, List.take_zero, List.take_succ_cons, Nat.zero_add, Nat.add_zero, Nat.reduceAdd, List.cons_append, List.nil_append, List.eraseIdx_cons_zero, List.eraseIdx_cons_succ]))
    all_goals (refine W ?_)
    · obtain ⟨y, hy, hym, _⟩ := drop_at (l := l) h1 hc'
      have hyb := hb y hym
      have e : IntKind.i64.wrap y = y := IntWalk.i64_in _ (by omega)
      refine dz93_1 ?_
      refine WX ?_
      refine W ?_
      refine LX_ix (fun h' HL => hcv.le HL.le) enU1 hy h1 rfl rfl noG fun q1 o1 hrow1 => ?_
      try (dsimp only [st, setL, AV.cells, List.set_cons_zero, List.set_cons_succ, List.drop_zero, List.drop_succ_cons, List.take_zero, List.take_succ_cons, Nat.zero_add, Nat.add_zero, Nat.reduceAdd, List.cons_append, List.nil_append, List.eraseIdx_cons_zero, List.eraseIdx_cons_succ])
      refine WX ?_
      refine W ?_
      exact ⟨rfl, _, exJ rfl, rfl, by omega, by omega⟩
    · exact ⟨rfl, _, exJ rfl, rfl, by omega, by omega⟩
  · rintro _ _ ⟨x, ⟨r, rfl⟩, rfl, hx0, hx1⟩
    refine LThen_n ?_
    refine W ?_
    refine dz93_2 ?_
    refine WX ?_
    refine W ?_
    (first | refine LS_gt rfl ?_ ?_ | refine LS_gf rfl ?_ ?_ | refine LI_cond rfl ?_ ?_) <;> intro hc <;> have hc' := hc <;> try simp only [decide_eq_true_eq, decide_eq_false_iff_not, Bool.not_eq_true', Bool.not_eq_false', Bool.not_eq_true, Bool.not_eq_false, beq_iff_eq, bne_iff_ne, beq_eq_false_iff_ne, bne_eq_false_iff_eq, Int.not_lt, Int.not_le, ge_iff_le, gt_iff_lt, not_and, ne_eq, Decidable.not_not] at hc'
    all_goals (try (dsimp only [st, setL, AV.cells, List.set_cons_zero, List.set_cons_succ, List.drop_zero, List.drop_succ_cons, List.take_zero, List.take_succ_cons, Nat.zero_add, Nat.add_zero, Nat.reduceAdd, List.cons_append, List.nil_append, List.eraseIdx_cons_zero, List.eraseIdx_cons_succ]))
    all_goals (refine W ?_)
    · refine RET fun h' HL => ?_
      try dsimp only [oneA]
      exact ⟨_, ⟨x, _, rfl, hx0, hx1, rfl⟩, HL⟩
    · refine LS_v (OpV_shr rfl rfl (by omega)) ?_
      try (dsimp only [st, setL, AV.cells, List.set_cons_zero, List.set_cons_succ, List.drop_zero, List.drop_succ_cons, List.take_zero, List.take_succ_cons, Nat.zero_add, Nat.add_zero, Nat.reduceAdd, List.cons_append, List.nil_append, List.eraseIdx_cons_zero, List.eraseIdx_cons_succ])
      refine W ?_
      refine RET fun h' HL => ?_
      try dsimp only [oneA]
      exact ⟨_, ⟨_, _, rfl, (and255 _).1, (and255 _).2, rfl⟩, HL⟩

theorem pick_ac (n : Int) (bc : Nat) (cv : AV) (l : List Int) (ct sd : Int) (h0 h : AH) (L : List It) (HL : Loq h0 h (.pt bc [cv, .i .i64 ct, .i .u64 sd] :: L)) (hcv : RdG 1 enU h0 cv l) (hb : ∀ x ∈ l, 0 ≤ x ∧ x ≤ 255) (h1 : 0 ≤ ct) (h2 : ct ≤ 549755813888) :
    AC Try.prog 73 [.p bc 0, .i .i64 n] h (fun r h' => ∃ M, (∃ x ct' sd', r = .i .i64 x ∧ (0 ≤ x ∧ (x = 0 ∨ x < n)) ∧ (ct ≤ ct' ∧ ct' ≤ ct + 2) ∧ M = .pt bc [cv, .i .i64 ct', .i .u64 sd'] :: L) ∧ Loq h0 h' M) := by
  refine e73 _ _ fun wf => ?_
  unfold c73
  refine LI_startL HL ?_
  refine W ?_
  (first | refine LS_gt rfl ?_ ?_ | refine LS_gf rfl ?_ ?_ | refine LI_cond rfl ?_ ?_) <;> intro hc <;> have hc' := hc <;> try simp only [decide_eq_true_eq, decide_eq_false_iff_not, Bool.not_eq_true', Bool.not_eq_false', Bool.not_eq_true, Bool.not_eq_false, beq_iff_eq, bne_iff_ne, beq_eq_false_iff_ne, bne_eq_false_iff_eq, Int.not_lt, Int.not_le, ge_iff_le, gt_iff_lt, not_and, ne_eq, Decidable.not_not] at hc'
  all_goals (try (dsimp only [st, setL, AV.cells, List.set_cons_zero, List.set_cons_succ, List.drop_zero, List.drop_succ_cons, List.take_zero, List.take_succ_cons, Nat.zero_add, Nat.add_zero, Nat.reduceAdd, List.cons_append, List.nil_append, List.eraseIdx_cons_zero, List.eraseIdx_cons_succ]))
  all_goals (refine W ?_)
  · refine RET fun h' HL => ?_
    try dsimp only [oneA]
    exact ⟨_, ⟨0, ct, sd, rfl, ⟨by omega, .inl rfl⟩, by omega, rfl⟩, HL⟩
  · refine LS_cm (.refl _) (fun h' HL wf => next_ac bc cv l ct sd h0 h' L HL hcv hb h1 (by omega)) rfl rfl ?_
    try (dsimp only [st, setL, AV.cells, List.set_cons_zero, List.set_cons_succ, List.drop_zero, List.drop_succ_cons, List.take_zero, List.take_succ_cons, Nat.zero_add, Nat.add_zero, Nat.reduceAdd, List.cons_append, List.nil_append, List.eraseIdx_cons_zero, List.eraseIdx_cons_succ])
    refine W ?_
    rintro _ _ ⟨x, sd1, rfl, x0, x1, rfl⟩
    try (dsimp only [st, setL, AV.cells, List.set_cons_zero, List.set_cons_succ, List.drop_zero, List.drop_succ_cons, List.take_zero, List.take_succ_cons, Nat.zero_add, Nat.add_zero, Nat.reduceAdd, List.cons_append, List.nil_append, List.eraseIdx_cons_zero, List.eraseIdx_cons_succ])
    refine W ?_
    (first | refine LS_gt rfl ?_ ?_ | refine LS_gf rfl ?_ ?_ | refine LI_cond rfl ?_ ?_) <;> intro hc <;> have hc' := hc <;> try simp only [decide_eq_true_eq, decide_eq_false_iff_not, Bool.not_eq_true', Bool.not_eq_false', Bool.not_eq_true, Bool.not_eq_false, beq_iff_eq, bne_iff_ne, beq_eq_false_iff_ne, bne_eq_false_iff_eq, Int.not_lt, Int.not_le, ge_iff_le, gt_iff_lt, not_and, ne_eq, Decidable.not_not] at hc'
    all_goals (try (dsimp only [st, setL, AV.cells, List.set_cons_zero, List.set_cons_succ, List.drop_zero, List.drop_succ_cons, List.take_zero, List.take_succ_cons, Nat.zero_add, Nat.add_zero, Nat.reduceAdd, List.cons_append, List.nil_append, List.eraseIdx_cons_zero, List.eraseIdx_cons_succ]))
    all_goals (refine W ?_)
    · refine LS_cm (.refl _) (fun h' HL wf => next_ac bc cv l (ct + 1) sd1 h0 h' L HL hcv hb (by omega) (by omega)) rfl rfl ?_
      try (dsimp only [st, setL, AV.cells, List.set_cons_zero, List.set_cons_succ, List.drop_zero, List.drop_succ_cons, List.take_zero, List.take_succ_cons, Nat.zero_add, Nat.add_zero, Nat.reduceAdd, List.cons_append, List.nil_append, List.eraseIdx_cons_zero, List.eraseIdx_cons_succ])
      refine W ?_
      rintro _ _ ⟨y, sd2, rfl, y0, y1, rfl⟩
      try (dsimp only [st, setL, AV.cells, List.set_cons_zero, List.set_cons_succ, List.drop_zero, List.drop_succ_cons, List.take_zero, List.take_succ_cons, Nat.zero_add, Nat.add_zero, Nat.reduceAdd, List.cons_append, List.nil_append, List.eraseIdx_cons_zero, List.eraseIdx_cons_succ])
      refine W ?_
      refine LS_v (OpV_rem rfl rfl (by omega)) ?_
      try (dsimp only [st, setL, AV.cells, List.set_cons_zero, List.set_cons_succ, List.drop_zero, List.drop_succ_cons, List.take_zero, List.take_succ_cons, Nat.zero_add, Nat.add_zero, Nat.reduceAdd, List.cons_append, List.nil_append, List.eraseIdx_cons_zero, List.eraseIdx_cons_succ])
      refine W ?_
      have e := IntWalk.rem_in (x * 256 + y) n (by omega)
      have e1 := Int.emod_nonneg (x * 256 + y) (b := n) (by omega)
      have e2 := Int.emod_lt_of_pos (x * 256 + y) (b := n) (by omega)
      refine RET fun h' HL => ?_
      try dsimp only [oneA]
      exact ⟨_, ⟨_, ct + 1 + 1, _, rfl, by omega, by omega, rfl⟩, HL⟩
    · refine LS_v (OpV_rem rfl rfl (by omega)) ?_
      try (dsimp only [st, setL, AV.cells, List.set_cons_zero, List.set_cons_succ, List.drop_zero, List.drop_succ_cons, List.take_zero, List.take_succ_cons, Nat.zero_add, Nat.add_zero, Nat.reduceAdd, List.cons_append, List.nil_append, List.eraseIdx_cons_zero, List.eraseIdx_cons_succ])
      refine W ?_
      have e := IntWalk.rem_in x n (by omega)
      have e1 := Int.emod_nonneg x (b := n) (by omega)
      have e2 := Int.emod_lt_of_pos x (b := n) (by omega)
      refine RET fun h' HL => ?_
      try dsimp only [oneA]
      exact ⟨_, ⟨_, ct + 1, _, rfl, by omega, by omega, rfl⟩, HL⟩

theorem among_ac (li : List Int) (w : AV) (bc : Nat) (cv : AV) (l : List Int) (ct sd : Int) (h0 h : AH) (L : List It) (HL : Loq h0 h (.pt bc [cv, .i .i64 ct, .i .u64 sd] :: L)) (hw : ∀ h', Loq h0 h' L → Rd h' w li) (hl : 0 < li.length) (hcv : RdG 1 enU h0 cv l) (hb : ∀ x ∈ l, 0 ≤ x ∧ x ≤ 255) (h1 : 0 ≤ ct) (h2 : ct ≤ 549755813888) :
    AC Try.prog 74 [.p bc 0, w] h (fun r h' => ∃ M, (∃ x ct' sd', r = .i .i64 x ∧ x ∈ li ∧ (ct ≤ ct' ∧ ct' ≤ ct + 2) ∧ M = .pt bc [cv, .i .i64 ct', .i .u64 sd'] :: L) ∧ Loq h0 h' M) := by
  have hln := (hw h HL.tail).len
  refine e74 _ _ fun wf => ?_
  unfold c74
  refine LI_startL HL ?_
  refine W ?_
  refine LS_cm (.refl _) (fun h' HL wf => pick_ac li.length _ _ _ _ _ _ h' _ HL  hcv hb (by omega) (by omega)) rfl rfl ?_
  rintro _ _ ⟨x, ct1, sd1, rfl, hx, hct1, rfl⟩
  try (dsimp only [st, setL, AV.cells, List.set_cons_zero, List.set_cons_succ, List.drop_zero, List.drop_succ_cons, List.take_zero, List.take_succ_cons, Nat.zero_add, Nat.add_zero, Nat.reduceAdd, List.cons_append, List.nil_append, List.eraseIdx_cons_zero, List.eraseIdx_cons_succ])
  refine W ?_
  obtain ⟨y, hy, hym, _⟩ := drop_at (l := li) hx.1 (by omega)
  refine LS_ix (fun h' HL => hw h' HL.tail) enI1 hy hx.1 rfl rfl fun q1 o1 hrow1 => ?_
  try (dsimp only [st, setL, AV.cells, List.set_cons_zero, List.set_cons_succ, List.drop_zero, List.drop_succ_cons, List.take_zero, List.take_succ_cons, Nat.zero_add, Nat.add_zero, Nat.reduceAdd, List.cons_append, List.nil_append, List.eraseIdx_cons_zero, List.eraseIdx_cons_succ])
  refine W ?_
  refine RET fun h' HL => ?_
  try dsimp only [oneA]
  exact ⟨_, ⟨y, ct1, sd1, rfl, hym, hct1, rfl⟩, HL⟩

/-! ### What the laws draw -/
theorem bytes_in {l : List Int} (h : ∀ n ∈ l, (Lit.int .u8 n).wf = true) : ∀ x ∈ l, 0 ≤ x ∧ x ≤ 255 := fun x hx => by
  have := h x hx
  simp [Lit.wf, IntKind.min, IntKind.max, IntKind.signed, IntKind.bits] at this
  omega

theorem big_ac (c1 c2 : List Int) (v1 v2 : AV) (h : AH) (hR1 : RdG 1 enU h v1 c1) (hR2 : RdG 1 enU h v2 c2) (hm1 : c1.length ≤ 9223372036854775807) (hm2 : c2.length ≤ 9223372036854775807) :
    AC Try.prog 31 [v1, v2] h (fun r h' => r = .b (decide ((c1.length : Int) > 1048576) || decide ((c2.length : Int) > 1048576 - c1.length)) ∧ h.le h') := by
  have l1 := hR1.len
  have l2 := hR2.len
  refine e31 _ _ fun wf => ?_
  unfold c31
  refine LI_start wf ?_
  refine W ?_
  (first | refine LS_gt rfl ?_ ?_ | refine LS_gf rfl ?_ ?_ | refine LI_cond rfl ?_ ?_) <;> intro hc <;> have hc' := hc <;> try simp only [decide_eq_true_eq, decide_eq_false_iff_not, Bool.not_eq_true', Bool.not_eq_false', Bool.not_eq_true, Bool.not_eq_false, beq_iff_eq, bne_iff_ne, beq_eq_false_iff_ne, bne_eq_false_iff_eq, Int.not_lt, Int.not_le, ge_iff_le, gt_iff_lt, not_and, ne_eq, Decidable.not_not] at hc'
  all_goals (try (dsimp only [st, setL, AV.cells, List.set_cons_zero, List.set_cons_succ, List.drop_zero, List.drop_succ_cons, List.take_zero, List.take_succ_cons, Nat.zero_add, Nat.add_zero, Nat.reduceAdd, List.cons_append, List.nil_append, List.eraseIdx_cons_zero, List.eraseIdx_cons_succ]))
  all_goals (refine W ?_)
  · refine RET fun h' HL => ?_
    try dsimp only [oneA]
    exact ⟨by rw [hc, Bool.false_or], HL.le⟩
  · refine RET fun h' HL => ?_
    try dsimp only [oneA]
    exact ⟨by rw [hc, Bool.true_or], HL.le⟩

theorem take_snoc {α : Type} {l : List α} {i : Nat} {y : α} (hy : l[i]? = some y) : l.take (i + 1) = l.take i ++ [y] := by rw [List.take_add_one, hy]; rfl

theorem at_ {α : Type} {l : List α} {i : Nat} (h : i < l.length) : ∃ x, l[i]? = some x := ⟨_, List.getElem?_eq_getElem h⟩

structure PlP (h : AH) (b : Nat) (p : PlanM) (vs vo : AV) : Prop where
  row : h.row b 0 3 = some [.i .i64 p.n, vs, vo]
  steps : RdG 2 enStep h vs p.steps
  outs : Rd h vo p.outs

theorem PlP.le {h h' : AH} {b : Nat} {p : PlanM} {vs vo : AV} (H : PlP h b p vs vo) (hle : h.le h') : PlP h' b p vs vo := ⟨hle.row H.row, H.steps.le hle, H.outs.le hle⟩

theorem PlP.frz {h : AH} {b : Nat} {p : PlanM} {vs vo : AV} (H : PlP h b p vs vo) : PlP h.frz b p vs vo := ⟨H.row, H.steps.frz, H.outs.frz⟩

theorem l1Has_ac (l : List Int) (v : AV) (x : Int) (h : AH) (hR : Rd h v l) (hl : l.length ≤ 4611686018427387904) : AC Try.prog 90 [v, .i .i64 x] h (fun r h' => r = .b (l.any fun y => y == x) ∧ h.le h') := by
  refine e90 _ _ fun wf => ?_
  unfold c90
  refine LI_start wf ?_
  refine W ?_
  refine LIL_ind (fun n a L => ∃ (i : Int), (∃ r : Nat → AV, a = [r 0, .i .i64 x, r 2, r 3, r 4, r 5, r 6, v, .i .i64 l.length, .i .i64 i, r 10, r 11, r 12, r 13, r 14, r 15, r 16]) ∧ L = [] ∧ 0 ≤ i ∧ i + n = l.length ∧ (l.any fun y => y == x) = ((l.drop i.toNat).any fun y => y == x))
    l.length ⟨0, exJ rfl, rfl, by omega, by omega, rfl⟩ ?_
  rintro n a L ⟨i, ⟨r, rfl⟩, rfl, h0, hn, heq⟩ IH
  refine W ?_
  (first | refine LS_gt rfl ?_ ?_ | refine LS_gf rfl ?_ ?_ | refine LI_cond rfl ?_ ?_) <;> intro hc <;> have hc' := hc <;> try simp only [decide_eq_true_eq, decide_eq_false_iff_not, Bool.not_eq_true', Bool.not_eq_false', Bool.not_eq_true, Bool.not_eq_false, beq_iff_eq, bne_iff_ne, beq_eq_false_iff_ne, bne_eq_false_iff_eq, Int.not_lt, Int.not_le, ge_iff_le, gt_iff_lt, not_and, ne_eq, Decidable.not_not] at hc'
  all_goals (try (dsimp only [st, setL, AV.cells, List.set_cons_zero, List.set_cons_succ, List.drop_zero, List.drop_succ_cons, List.take_zero, List.take_succ_cons, Nat.zero_add, Nat.add_zero, Nat.reduceAdd, List.cons_append, List.nil_append, List.eraseIdx_cons_zero, List.eraseIdx_cons_succ]))
  all_goals (refine W ?_)
  · obtain ⟨y, hy, hym, hd⟩ := drop_at h0 hc'
    rw [hd, List.any_cons] at heq
    refine LS_ix (fun h' HL => hR.le HL.le) enI1 hy h0 rfl rfl fun b o hrow => ?_
    try (dsimp only [st, setL, AV.cells, List.set_cons_zero, List.set_cons_succ, List.drop_zero, List.drop_succ_cons, List.take_zero, List.take_succ_cons, Nat.zero_add, Nat.add_zero, Nat.reduceAdd, List.cons_append, List.nil_append, List.eraseIdx_cons_zero, List.eraseIdx_cons_succ])
    refine W ?_
    (first | refine LS_gt rfl ?_ ?_ | refine LS_gf rfl ?_ ?_ | refine LI_cond rfl ?_ ?_) <;> intro hc <;> have hc' := hc <;> try simp only [decide_eq_true_eq, decide_eq_false_iff_not, Bool.not_eq_true', Bool.not_eq_false', Bool.not_eq_true, Bool.not_eq_false, beq_iff_eq, bne_iff_ne, beq_eq_false_iff_ne, bne_eq_false_iff_eq, Int.not_lt, Int.not_le, ge_iff_le, gt_iff_lt, not_and, ne_eq, Decidable.not_not] at hc'
    all_goals (try (dsimp only [st, setL, AV.cells, List.set_cons_zero, List.set_cons_succ, List.drop_zero, List.drop_succ_cons, List.take_zero, List.take_succ_cons, Nat.zero_add, Nat.add_zero, Nat.reduceAdd, List.cons_append, List.nil_append, List.eraseIdx_cons_zero, List.eraseIdx_cons_succ]))
    all_goals (refine W ?_)
    · rw [heq, hc]
      refine RET fun h' HL => ?_
      try dsimp only [oneA]
      exact ⟨rfl, HL.le⟩
    · refine IH (n - 1) _ _ (by omega) ⟨i + 1, exJ rfl, rfl, by omega, by omega, ?_⟩
      rw [heq, hc, Bool.false_or, toNat_succ h0]
  · rw [heq, List.drop_eq_nil_of_le (by omega)]
    refine RET fun h' HL => ?_
    try dsimp only [oneA]
    exact ⟨rfl, HL.le⟩

theorem Index_ac (l : List Int) (v : AV) (x : Int) (h : AH) (hR : Rd h v l) (hl : l.length ≤ 4611686018427387904) : AC Try.prog 94 [v, .i .i64 x] h (fun r h' => r = .i .i64 (idxFrom (fun y => x == y) l 0) ∧ h.le h') := by
  refine e94 _ _ fun wf => ?_
  unfold c94
  refine LI_start wf ?_
  refine W ?_
  refine LIL_ind (fun n a L => ∃ (i : Int), (∃ r : Nat → AV, a = [v, .i .i64 x, r 2, r 3, r 4, r 5, r 6, .i .i64 l.length, .i .i64 i, r 9, r 10, r 11, r 12, r 13, r 14, r 15, r 16, r 17, r 18]) ∧ L = [] ∧ 0 ≤ i ∧ i + n = l.length ∧ idxFrom (fun y => x == y) l 0 = idxFrom (fun y => x == y) (l.drop i.toNat) i)
    l.length ⟨0, exJ rfl, rfl, by omega, by omega, rfl⟩ ?_
  rintro n a L ⟨i, ⟨r, rfl⟩, rfl, h0, hn, heq⟩ IH
  refine W ?_
  (first | refine LS_gt rfl ?_ ?_ | refine LS_gf rfl ?_ ?_ | refine LI_cond rfl ?_ ?_) <;> intro hc <;> have hc' := hc <;> try simp only [decide_eq_true_eq, decide_eq_false_iff_not, Bool.not_eq_true', Bool.not_eq_false', Bool.not_eq_true, Bool.not_eq_false, beq_iff_eq, bne_iff_ne, beq_eq_false_iff_ne, bne_eq_false_iff_eq, Int.not_lt, Int.not_le, ge_iff_le, gt_iff_lt, not_and, ne_eq, Decidable.not_not] at hc'
  all_goals (try (dsimp only [st, setL, AV.cells, List.set_cons_zero, List.set_cons_succ, List.drop_zero, List.drop_succ_cons, List.take_zero, List.take_succ_cons, Nat.zero_add, Nat.add_zero, Nat.reduceAdd, List.cons_append, List.nil_append, List.eraseIdx_cons_zero, List.eraseIdx_cons_succ]))
  all_goals (refine W ?_)
  · obtain ⟨y, hy, hym, hd⟩ := drop_at h0 hc'
    rw [hd, idxFrom] at heq
    refine LS_ix (fun h' HL => hR.le HL.le) enI1 hy h0 rfl rfl fun b o hrow => ?_
    try (dsimp only [st, setL, AV.cells, List.set_cons_zero, List.set_cons_succ, List.drop_zero, List.drop_succ_cons, List.take_zero, List.take_succ_cons, Nat.zero_add, Nat.add_zero, Nat.reduceAdd, List.cons_append, List.nil_append, List.eraseIdx_cons_zero, List.eraseIdx_cons_succ])
    refine W ?_
    (first | refine LS_gt rfl ?_ ?_ | refine LS_gf rfl ?_ ?_ | refine LI_cond rfl ?_ ?_) <;> intro hc <;> have hc' := hc <;> try simp only [decide_eq_true_eq, decide_eq_false_iff_not, Bool.not_eq_true', Bool.not_eq_false', Bool.not_eq_true, Bool.not_eq_false, beq_iff_eq, bne_iff_ne, beq_eq_false_iff_ne, bne_eq_false_iff_eq, Int.not_lt, Int.not_le, ge_iff_le, gt_iff_lt, not_and, ne_eq, Decidable.not_not] at hc'
    all_goals (try (dsimp only [st, setL, AV.cells, List.set_cons_zero, List.set_cons_succ, List.drop_zero, List.drop_succ_cons, List.take_zero, List.take_succ_cons, Nat.zero_add, Nat.add_zero, Nat.reduceAdd, List.cons_append, List.nil_append, List.eraseIdx_cons_zero, List.eraseIdx_cons_succ]))
    all_goals (refine W ?_)
    · rw [heq, if_pos hc]
      refine RET fun h' HL => ?_
      try dsimp only [oneA]
      exact ⟨rfl, HL.le⟩
    · refine IH (n - 1) _ _ (by omega) ⟨i + 1, exJ rfl, rfl, by omega, by omega, ?_⟩
      rw [heq, if_neg (by rw [hc]; simp), toNat_succ h0]
  · rw [heq, List.drop_eq_nil_of_le (by omega)]
    refine RET fun h' HL => ?_
    try dsimp only [oneA]
    exact ⟨rfl, HL.le⟩

theorem Contains_ac (l : List Int) (v : AV) (x : Int) (h : AH) (hR : Rd h v l) (hl : l.length ≤ 4611686018427387904) : AC Try.prog 75 [v, .i .i64 x] h (fun r h' => r = .b (l.any fun y => y == x) ∧ h.le h') := by
  refine e75 _ _ fun wf => ?_
  unfold c75
  refine LI_start wf ?_
  refine W ?_
  refine LS_c0 (fun h' HL wf => Index_ac l v x h' (hR.le HL.le) hl) rfl rfl ?_
  try (dsimp only [st, setL, AV.cells, List.set_cons_zero, List.set_cons_succ, List.drop_zero, List.drop_succ_cons, List.take_zero, List.take_succ_cons, Nat.zero_add, Nat.add_zero, Nat.reduceAdd, List.cons_append, List.nil_append, List.eraseIdx_cons_zero, List.eraseIdx_cons_succ])
  refine W ?_
  refine RET fun h' HL => ?_
  try dsimp only [oneA]
  refine ⟨?_, HL.le⟩
  have e : (fun y => y == x) = fun y => x == y := by funext y; exact Bool.beq_comm
  rw [e, ← idxFrom_any _ l 0 (by omega)]

theorem loq_ns {h0 h : AH} {L : List It} (H : Loq h0 h L) (k : Nat) : Loq h0 h (.sl .ns k [] :: L) := H.cons (.inl ⟨rfl, rfl⟩) fun y hy => .sl fun b e => by cases e

/-- A list handed back, and whether. -/
def TupI (l : List Int) (ok : Bool) (r : AV) (M : List It) : Prop := ∃ w, r = .tup [w, .b ok] ∧ lenA w = some l.length ∧ w.sc = true ∧ M = [.sl w 1 (l.flatMap enI)]

/-! ### Numbers of paths -/
def pathS (n : Int) (x : Int) (U : List Int) (i : Nat) (s : Int × Int) : List Int := if n + i = x then U else U.set (n + i).toNat (U.getD s.1.toNat 0 + U.getD s.2.toNat 0)

/-- What is known of the numbers when some steps have been done. -/
structure PathI (p : PlanM) (x : Int) (i : Nat) (U : List Int) : Prop where
  len : U.length = (p.n + p.steps.length).toNat
  at_ : U.getD x.toNat 0 = 1
  lo : ∀ j : Nat, (j : Int) < x → U.getD j 0 = 0
  hi : ∀ j : Nat, p.n + i ≤ j → (j : Int) ≠ x → U.getD j 0 = 0
  bd : ∀ j : Nat, 0 ≤ U.getD j 0 ∧ U.getD j 0 ≤ 2 ^ i

theorem getD_set {U : List Int} {j k : Nat} {y : Int} (hk : k < U.length) : (U.set k y).getD j 0 = if k = j then y else U.getD j 0 := by
  simp only [List.getD, List.getElem?_set]
  split
  · rename_i e; subst e; simp [hk]
  · rfl

theorem PathI.next {p : PlanM} {x : Int} {i : Nat} {U : List Int} {s : Int × Int} (H : PathI p x i U) (hn : 1 ≤ p.n) (hx : 0 ≤ x) (hi : i < p.steps.length) (h1 : 0 ≤ s.1) (h2 : s.1 ≤ s.2) (h3 : s.2 < p.n + i) : PathI p x (i + 1) (pathS p.n x U i s) := by
  have hp : (2 : Int) ^ (i + 1) = 2 * 2 ^ i := by rw [Int.pow_succ]; omega
  have hpos : (0 : Int) ≤ 2 ^ i := Int.pow_nonneg (by omega)
  unfold pathS
  split
  · rename_i e
    refine ⟨H.len, H.at_, H.lo, fun j hj hx => H.hi j (by omega) hx, fun j => ?_⟩
    have := H.bd j
    rw [hp]
    omega
  · rename_i e
    have hk : (p.n + i).toNat < U.length := by rw [H.len]; omega
    have hb1 := H.bd s.1.toNat
    have hb2 := H.bd s.2.toNat
    refine ⟨by simp [H.len], ?_, ?_, ?_, ?_⟩
    · rw [getD_set hk, if_neg (by omega)]; exact H.at_
    · intro j hj
      rw [getD_set hk]
      split
      · rw [H.lo _ (by omega), H.lo _ (by omega)]; rfl
      · exact H.lo j hj
    · intro j hj hx
      rw [getD_set hk, if_neg (by omega)]
      exact H.hi j (by omega) hx
    · intro j
      rw [getD_set hk, hp]
      split
      · omega
      · have := H.bd j; omega

theorem isShort_ac (n : Int) (h : AH) : AC Try.prog 59 [.i .i64 n] h (fun v h' => v = .b (decide (1 ≤ n ∧ n ≤ 100)) ∧ h = h') := by
  refine e59 _ fun wf => ?_
  unfold c59
  repeat (first | refine AI_seqk fun K hK => ?_ | refine AI_reg ?_ | ((first | refine wmv rfl ?_ | refine wag rfl ?_ | refine war _ rfl rfl rfl (by omega) (by omega) ?_ | refine wbn rfl rfl rfl ?_ | refine wnt rfl ?_ | refine wex rfl rfl ?_ | refine wpt rfl (by first | assumption | with_reducible rfl) rfl ?_ | refine wpf rfl (by first | assumption | with_reducible rfl) rfl ?_ | refine wpb rfl rfl rfl ?_ | refine wmf rfl ?_ | refine wnc rfl ?_ | refine wbq Try.underlying4 rfl rfl _ (.inr ⟨rfl, rfl⟩) ?_ | refine wbq Try.underlying4 rfl rfl _ (.inl ⟨rfl, rfl⟩) ?_); try dsimp only [st, List.set_cons_zero, List.set_cons_succ]) | ((first | refine AS_nil ?_ | refine AI_skip ?_ | refine AI_exit ?_); try simp only [AThen, ABlk, reduceIte, reduceCtorEq]) | ((first | refine hK _ _ ?_ | ((first | clear hK K | clear IH hK K); refine hK _ _ ?_) | ((first | clear hK K | clear IH hK K); (first | clear hK K | clear IH hK K); refine hK _ _ ?_) | ((first | clear hK K | clear IH hK K); (first | clear hK K | clear IH hK K); (first | clear hK K | clear IH hK K); refine hK _ _ ?_)); try (first | clear hK K | clear IH hK K)) | refine AI_cond_t rfl (by first | assumption | with_reducible rfl) ?_ | refine AI_cond_f rfl (by first | assumption | with_reducible rfl) ?_ | refine AS_gy rfl (by first | assumption | with_reducible rfl) ?_ | refine AS_gtn rfl (by first | assumption | with_reducible rfl) ?_ | refine AS_gfn rfl (by first | assumption | with_reducible rfl) ?_ | refine AI_block (AI_loop ?_) | refine AI_block ?_ | refine AI_ret ⟨_, rfl, ?_⟩)
  refine AS_op (OpR_call rfl rfl (in_ac _ _ _ _) ?_)
  rintro _ _ wf1 ⟨rfl, rfl⟩
  try (dsimp only [st, setL, AV.cells, List.set_cons_zero, List.set_cons_succ, List.drop_zero, List.drop_succ_cons, List.take_zero, List.take_succ_cons, Nat.zero_add, Nat.add_zero, Nat.reduceAdd, List.cons_append, List.nil_append, List.eraseIdx_cons_zero, List.eraseIdx_cons_succ])
  repeat (first | refine AI_seqk fun K hK => ?_ | refine AI_reg ?_ | ((first | refine wmv rfl ?_ | refine wag rfl ?_ | refine war _ rfl rfl rfl (by omega) (by omega) ?_ | refine wbn rfl rfl rfl ?_ | refine wnt rfl ?_ | refine wex rfl rfl ?_ | refine wpt rfl (by first | assumption | with_reducible rfl) rfl ?_ | refine wpf rfl (by first | assumption | with_reducible rfl) rfl ?_ | refine wpb rfl rfl rfl ?_ | refine wmf rfl ?_ | refine wnc rfl ?_ | refine wbq Try.underlying4 rfl rfl _ (.inr ⟨rfl, rfl⟩) ?_ | refine wbq Try.underlying4 rfl rfl _ (.inl ⟨rfl, rfl⟩) ?_); try dsimp only [st, List.set_cons_zero, List.set_cons_succ]) | ((first | refine AS_nil ?_ | refine AI_skip ?_ | refine AI_exit ?_); try simp only [AThen, ABlk, reduceIte, reduceCtorEq]) | ((first | refine hK _ _ ?_ | ((first | clear hK K | clear IH hK K); refine hK _ _ ?_) | ((first | clear hK K | clear IH hK K); (first | clear hK K | clear IH hK K); refine hK _ _ ?_) | ((first | clear hK K | clear IH hK K); (first | clear hK K | clear IH hK K); (first | clear hK K | clear IH hK K); refine hK _ _ ?_)); try (first | clear hK K | clear IH hK K)) | refine AI_cond_t rfl (by first | assumption | with_reducible rfl) ?_ | refine AI_cond_f rfl (by first | assumption | with_reducible rfl) ?_ | refine AS_gy rfl (by first | assumption | with_reducible rfl) ?_ | refine AS_gtn rfl (by first | assumption | with_reducible rfl) ?_ | refine AS_gfn rfl (by first | assumption | with_reducible rfl) ?_ | refine AI_block (AI_loop ?_) | refine AI_block ?_ | refine AI_ret ⟨_, rfl, ?_⟩)
  exact ⟨rfl, rfl⟩

/-! ### Plans that are run -/
theorem Clone_int_ac (l : List Int) (v : AV) (h : AH) (hR : RdG 1 enI h v l) (hl : l.length ≤ 1048576) :
    AC Try.prog 72 [v] h (fun r h' => Own h 1 enI h' r l) := by
  rcases hR.rd with rfl | ⟨b, o, c, rfl, g1, g2⟩
  · have hl0 : l = [] := by have := hR.len; simp [lenA] at this; exact List.length_eq_zero_iff.1 this.symm
    subst hl0
    refine e72 _ fun wf => ?_
    unfold c72
    refine LI_start wf ?_
    refine W ?_
    refine LS_snl rfl rfl true true (.inl ⟨rfl, rfl⟩) (.inl ⟨rfl, rfl⟩) ?_
    try (dsimp only [st, setL, AV.cells, List.set_cons_zero, List.set_cons_succ, List.drop_zero, List.drop_succ_cons, List.take_zero, List.take_succ_cons, Nat.zero_add, Nat.add_zero, Nat.reduceAdd, List.cons_append, List.nil_append, List.eraseIdx_cons_zero, List.eraseIdx_cons_succ])
    refine W ?_
    refine RET fun h' HL => ?_
    try dsimp only [oneA]
    exact Own.nil HL.wf0 HL.le HL.wf _ _
  · refine e72 _ fun wf => ?_
    unfold c72
    refine LI_start wf ?_
    refine W ?_
    refine LS_snl rfl rfl false false (.inr ⟨_, _, _, _, rfl, rfl⟩) (.inl ⟨rfl, rfl⟩) ?_
    try (dsimp only [st, setL, AV.cells, List.set_cons_zero, List.set_cons_succ, List.drop_zero, List.drop_succ_cons, List.take_zero, List.take_succ_cons, Nat.zero_add, Nat.add_zero, Nat.reduceAdd, List.cons_append, List.nil_append, List.eraseIdx_cons_zero, List.eraseIdx_cons_succ])
    refine W ?_
    refine LS_lt ([] : List Int) rfl rfl (by decide) rfl rfl rfl rfl enI1 rfl rfl fun w1 h1 s1 => ?_
    try (dsimp only [st, setL, AV.cells, List.set_cons_zero, List.set_cons_succ, List.drop_zero, List.drop_succ_cons, List.take_zero, List.take_succ_cons, Nat.zero_add, Nat.add_zero, Nat.reduceAdd, List.cons_append, List.nil_append, List.eraseIdx_cons_zero, List.eraseIdx_cons_succ])
    refine W ?_
    refine LS_ap0 0 rfl (fun h' HL => hR.le HL.le) enI1 (by decide) (by simp; omega) (by simp; omega) rfl rfl rfl fun w2 hw2 sw2 => ?_
    try (dsimp only [st, setL, AV.cells, List.set_cons_zero, List.set_cons_succ, List.drop_zero, List.drop_succ_cons, List.take_zero, List.take_succ_cons, Nat.zero_add, Nat.add_zero, Nat.reduceAdd, List.cons_append, List.nil_append, List.eraseIdx_cons_zero, List.eraseIdx_cons_succ])
    refine W ?_
    refine RET fun h' HL => ?_
    try dsimp only [oneA]
    exact HL.ownI 0 rfl enI1 (by decide)

/-! ### Orders of the steps, as they are told one by one -/
theorem LO_apc {P : Program} {h0 : AH} {L : List It} {a : List AV} {d : Option Nat} {X : List AV → List It → Prop} {α : Type} {k : Nat} {enc : α → List AV} {T e : TypeId} {x y : Operand} {v u : AV} {ll l' : List α} {bytes : Nat} {z : AV} [i1 : Tsl P T e] [i2 : Tsz P e k] [i4 : Tby P e bytes] [i3 : Tze P e z]
    (hv : v = .ns ∨ ∃ b o n, v = .sl b o n true) (hRv : ∀ h, Loq h0 h L → RdG k enc h v ll) (hR : ∀ h, Loq h0 h L → RdG k enc h u l')
    (hke : ∀ x, (enc x).length = k) (hk0 : 0 < k) (hne : l' ≠ []) (hbd : (ll.length + l'.length) * bytes ≤ 140737488355328) (hbd2 : ll.length + l'.length ≤ 4611686018427387904) (hzl : z.cells.length = k)
    (hx : ev a x = some v) (hy : ev a y = some u) (H : ∀ w, lenA w = some (ll ++ l').length → w.sc = true → X (st a d w) (.sl w k ((ll ++ l').flatMap enc) :: L)) :
    LO P h0 L (.call { callee := .builtin .append, args := #[x, y], argTypes := #[T, T] }) d X a := by
  intro h HL
  have hRv' := hRv h HL
  have hR' := hR h HL
  rcases hv with rfl | ⟨b, o, n, rfl⟩
  · have hll : ll = [] := by
      have e := hRv'.len
      simp [lenA] at e
      exact List.eq_nil_of_length_eq_zero e.symm
    subst hll
    have HL1 : Loq h0 h (.sl .ns k (([] : List α).flatMap enc) :: L) := HL.cons (.inl ⟨rfl, rfl⟩) fun y hy => .sl fun b e => by cases e
    exact LO_ap (X := X) 0 rfl (fun h1 HL' => hR h1 HL'.tail) hke hk0 hne hbd hbd2 hzl hx hy H h HL1
  · rcases hRv'.rd with e1 | ⟨b', o', c', e1, hrow, _⟩
    · cases e1
    · injection e1 with q1 q2 q3 q4
      subst q1; subst q2; subst q3
      rcases hR'.rd with e2 | ⟨b2, o2, c2, rfl, hrow2, _⟩
      · subst e2
        have e := hR'.len
        simp [lenA] at e
        exact absurd (List.eq_nil_of_length_eq_zero e.symm) hne
      · have hpos : 0 < l'.length := List.length_pos_iff.2 hne
        exact OpR_append_clip i1.e i2.e i4.e i3.e hzl hx hy hpos hrow hrow2 hbd hbd2 ⟨_, HL.newS hke (ll ++ l') false (by simp) (by simp), H _ (by simp [lenA]) rfl⟩

def clipA : AV → AV
  | .sl b o n _ => .sl b o n true
  | v => v

theorem clipA_rd {h : AH} {v : AV} {l : List Int} (H : Rd h v l) : Rd h (clipA v) l := by
  rcases H.rd with rfl | ⟨b, o, c, rfl, h1, h2⟩
  · exact H
  · exact ⟨rfl, .inr ⟨b, o, true, rfl, h1, h2⟩⟩

theorem clipA_c {h : AH} {v : AV} {l : List Int} (H : Rd h v l) : clipA v = .ns ∨ ∃ b o n, clipA v = .sl b o n true := by
  rcases H.rd with rfl | ⟨b, o, c, rfl, h1, h2⟩
  · exact .inl rfl
  · exact .inr ⟨_, _, _, rfl⟩

theorem OpV_c3 {P : Program} {a : List AV} {T e : TypeId} {x hi mx : Operand} {b off len k : Nat} {c : Bool} {m : Int} [i1 : Tsl P T e] [i2 : Tsz P e k] (hx : ev a x = some (.sl b off len c)) (hh : ev a hi = some (.i .i64 m)) (hm : ev a mx = some (.i .i64 m)) (h1 : m = len) :
    OpV P (.slice T x none (some hi) (some mx)) a (.sl b off len true) := by
  unfold OpV
  intro ι ca hr o ho
  subst h1
  obtain ⟨pl, y, cap, hpl, hq, hle, hcl, hxx⟩ := rel_sl (ev_rel hr hx)
  have e1 := rel_i (ev_rel hr hh)
  have e2 := rel_i (ev_rel hr hm)
  have hrun : ∀ w, (Instr.sliceBounds true len cap none (some (ca.eval hi)) (some (ca.eval mx))).run P w = .ok (0, len, len) w := fun w => by
    simp [Instr.sliceBounds, e1, e2, run_sliceBound (show (0 : Int) ≤ len by omega) (show ((len : Int)).toNat ≤ cap by omega), run_sliceBound (show (0 : Int) ≤ len by omega) (show ((len : Int)).toNat ≤ len by omega)]
  refine ⟨.slice (some (if len = 0 then y else y.add (0 * k))) (len - 0) (len - 0), fun w => ?_, ?_⟩
  · unfold execOp
    simp only [ho, hq, Instr.sliceAt, Sem.run_bind, run_underlying i1.e, Result.andThen_ok, Option.map_none, Instr.slice, hrun, run_sizeOf_sz i2.e, Sem.run_pure, Option.map_some]
    by_cases e : len = 0 <;> simp [e]
  · refine .sl b off _ true pl _ len hpl (Nat.le_refl _) (fun _ => rfl) ?_
    by_cases e : len = 0
    · exact .inl e
    · rw [if_neg e]
      have hc0 : ¬ cap = 0 := by omega
      obtain ⟨e3, e4⟩ := hxx.resolve_left hc0
      refine .inr ⟨by rw [e3, add_none]; simp, ?_⟩
      have := Nat.mul_le_mul_right pl.k hle
      omega

theorem OpV_n3 {P : Program} {a : List AV} {T e : TypeId} {x hi mx : Operand} {k : Nat} [i1 : Tsl P T e] [i2 : Tsz P e k] (hx : ev a x = some .ns) (hh : ev a hi = some (.i .i64 0)) (hm : ev a mx = some (.i .i64 0)) :
    OpV P (.slice T x none (some hi) (some mx)) a .ns := by
  unfold OpV
  intro ι ca hr o ho
  have hq : ca.eval x = .slice none 0 0 := by
    have := ev_rel hr hx
    generalize ca.eval x = q at this
    cases this; rfl
  have e1 := rel_i (ev_rel hr hh)
  have e2 := rel_i (ev_rel hr hm)
  have hrun : ∀ w, (Instr.sliceBounds true 0 0 none (some (ca.eval hi)) (some (ca.eval mx))).run P w = .ok (0, 0, 0) w := fun w => by
    simp [Instr.sliceBounds, e1, e2, run_sliceBound (show (0 : Int) ≤ 0 by omega) (show ((0 : Int)).toNat ≤ 0 by omega)]
  refine ⟨.slice none 0 0, fun w => ?_, .ns⟩
  unfold execOp
  simp only [ho, hq, Instr.sliceAt, Sem.run_bind, run_underlying i1.e, Result.andThen_ok, Option.map_none, Instr.slice, hrun, run_sizeOf_sz i2.e, Sem.run_pure, Option.map_some]
  simp

theorem Clip_ac (l : List Int) (v : AV) (h : AH) (hR : Rd h v l) (hl : l.length ≤ 1048576) : AC Try.prog 92 [v] h (fun r h' => r = clipA v ∧ h.le h') := by
  have hln := hR.len
  rcases hR.rd with rfl | ⟨b, o, c, rfl, _, _⟩
  · obtain rfl : l = [] := by simp [lenA] at hln; exact List.eq_nil_of_length_eq_zero hln.symm
    refine e92 _ fun wf => ?_
    unfold c92
    refine LI_start wf ?_
    refine W ?_
    refine LS_v (OpV_n3 rfl rfl rfl) ?_
    try (dsimp only [st, setL, AV.cells, List.set_cons_zero, List.set_cons_succ, List.drop_zero, List.drop_succ_cons, List.take_zero, List.take_succ_cons, Nat.zero_add, Nat.add_zero, Nat.reduceAdd, List.cons_append, List.nil_append, List.eraseIdx_cons_zero, List.eraseIdx_cons_succ])
    refine W ?_
    refine RET fun h' HL => ?_
    try dsimp only [oneA]
    exact ⟨rfl, HL.le⟩
  · refine e92 _ fun wf => ?_
    unfold c92
    refine LI_start wf ?_
    refine W ?_
    refine LS_v (OpV_c3 rfl rfl rfl rfl) ?_
    try (dsimp only [st, setL, AV.cells, List.set_cons_zero, List.set_cons_succ, List.drop_zero, List.drop_succ_cons, List.take_zero, List.take_succ_cons, Nat.zero_add, Nat.add_zero, Nat.reduceAdd, List.cons_append, List.nil_append, List.eraseIdx_cons_zero, List.eraseIdx_cons_succ])
    refine W ?_
    refine RET fun h' HL => ?_
    try dsimp only [oneA]
    exact ⟨rfl, HL.le⟩

theorem loq_dr {h0 h : AH} {L M : List It} (n : Nat) (e : L.drop n = M) (H : Loq h0 h L) : Loq h0 h M := by
  subst e
  exact H.sub (List.drop_sublist n L)

/-! ### Star chains: plain laws -/
def lastD (c : List Int) : Int := c.getLastD 0

theorem lastD_snoc (c : List Int) (x : Int) : lastD (c ++ [x]) = x := by simp [lastD]

/-- All star chains that go on a chain by so many elements and end in n, in order. -/
def allS (n : Int) : Nat → List Int → List (List Int)
  | 0, c => if lastD c = n then [c] else []
  | k + 1, c => c.flatMap fun x => allS n k (c ++ [lastD c + x])

def goodC (c : List Int) : Prop := c ≠ [] ∧ ∀ x ∈ c, 1 ≤ x ∧ x ≤ lastD c

theorem goodC_one : goodC [1] := ⟨by simp, by simp [lastD]⟩

theorem goodC.last {c : List Int} (h : goodC c) : 1 ≤ lastD c := by
  obtain ⟨h1, h2⟩ := h
  cases c with
  | nil => exact absurd rfl h1
  | cons x l => have := h2 x (by simp); omega

theorem goodC_snoc {c : List Int} (h : goodC c) {x : Int} (hx : x ∈ c) : goodC (c ++ [lastD c + x]) := by
  have h1 := h.2 x hx
  refine ⟨by simp, fun y hy => ?_⟩
  rw [lastD_snoc]
  rcases List.mem_append.1 hy with hy | hy
  · have := h.2 y hy; omega
  · rw [List.mem_singleton.1 hy]; have := h.last; omega

theorem allS_gt {n : Int} : ∀ (k : Nat) (c : List Int), goodC c → n < lastD c → allS n k c = []
  | 0, c, _, h => by rw [allS, if_neg (by omega)]
  | k + 1, c, hg, h => by
    rw [allS, List.flatMap_eq_nil_iff]
    intro x hx
    have := hg.2 x hx
    exact allS_gt k _ (goodC_snoc hg hx) (by rw [lastD_snoc]; omega)

theorem allS_ge {n : Int} (k : Nat) (c : List Int) (hg : goodC c) (h : n ≤ lastD c) : allS n (k + 1) c = [] := by
  rw [allS, List.flatMap_eq_nil_iff]
  intro x hx
  have := hg.2 x hx
  exact allS_gt k _ (goodC_snoc hg hx) (by rw [lastD_snoc]; omega)

theorem allS_lt {n : Int} : ∀ (k : Nat) (c : List Int), goodC c → lastD c * 2 ^ k < n → allS n k c = []
  | 0, c, _, h => by rw [allS, if_neg (by simp at h; omega)]
  | k + 1, c, hg, h => by
    rw [allS, List.flatMap_eq_nil_iff]
    intro x hx
    have h1 := hg.2 x hx
    refine allS_lt k _ (goodC_snoc hg hx) ?_
    rw [lastD_snoc]
    have h2 : (lastD c + x) * 2 ^ k ≤ (2 * lastD c) * 2 ^ k := Int.mul_le_mul_of_nonneg_right (by omega) (Int.le_of_lt (Int.pow_pos (by omega)))
    rw [Int.pow_succ] at h
    have h3 : 2 * lastD c * 2 ^ k = lastD c * (2 ^ k * 2) := by rw [Int.mul_comm 2, Int.mul_assoc, Int.mul_comm 2]
    omega

/-- What the program's search does, that hands on chain after chain until one is enough. -/
def foldU {σ : Type} (f : σ → List Int → σ × Bool) : σ → List (List Int) → σ × Bool
  | s, [] => (s, false)
  | s, c :: cs => if (f s c).2 = true then ((f s c).1, true) else foldU f (f s c).1 cs

theorem foldU_app {σ : Type} (f : σ → List Int → σ × Bool) : ∀ (l1 l2 : List (List Int)) (s : σ), foldU f s (l1 ++ l2) = if (foldU f s l1).2 = true then foldU f s l1 else foldU f (foldU f s l1).1 l2
  | [], l2, s => by simp [foldU]
  | c :: cs, l2, s => by
    rw [List.cons_append, foldU, foldU]
    by_cases h : (f s c).2 = true
    · simp [h]
    · simp only [h, if_false, Bool.false_eq_true]
      exact foldU_app f cs l2 _

/-! ### Star chains: which they are, in which order, how long -/
def chainB : List Int → List Int → Bool
  | _, [] => true
  | pre, x :: l => pre.contains (x - lastD pre) && chainB (pre ++ [x]) l

theorem lastD_app (c : List Int) (x : Int) (t : List Int) : lastD (c ++ x :: t) = lastD (c ++ [x] ++ t) := by simp

theorem allS_mem {n : Int} : ∀ (t : List Int) (c : List Int), chainB c t = true → lastD (c ++ t) = n → c ++ t ∈ allS n t.length c
  | [], c, _, h => by rw [List.append_nil] at h ⊢; rw [List.length_nil, allS, if_pos h]; simp
  | x :: t, c, hc, h => by
    simp only [chainB, Bool.and_eq_true, List.contains_eq_mem, decide_eq_true_eq] at hc
    rw [List.length_cons, allS, List.mem_flatMap]
    refine ⟨_, hc.1, ?_⟩
    rw [show lastD c + (x - lastD c) = x by omega, show c ++ x :: t = c ++ [x] ++ t by simp]
    exact allS_mem t _ hc.2 (by rw [← h, lastD_app])

theorem allS_out {n : Int} : ∀ (k : Nat) (c d : List Int), d ∈ allS n k c → ∃ t, d = c ++ t ∧ t.length = k ∧ chainB c t = true ∧ lastD d = n
  | 0, c, d, h => by
    rw [allS] at h
    split at h
    · rename_i e
      rw [List.mem_singleton.1 h]
      exact ⟨[], by simp, rfl, rfl, e⟩
    · simp at h
  | k + 1, c, d, h => by
    rw [allS, List.mem_flatMap] at h
    obtain ⟨x, hx, h⟩ := h
    obtain ⟨t, rfl, h1, h2, h3⟩ := allS_out k _ d h
    refine ⟨(lastD c + x) :: t, by simp, by simp [h1], ?_, h3⟩
    simp only [chainB, Bool.and_eq_true, List.contains_eq_mem, decide_eq_true_eq]
    exact ⟨by rw [show lastD c + x - lastD c = x by omega]; exact hx, h2⟩

/-! The chain of the binary digits, and the least length. -/
def binT : Nat → Int → List Int
  | 0, _ => []
  | f + 1, n => if n ≤ 1 then [] else if n % 2 = 0 then binT f (n / 2) ++ [n] else binT f (n / 2) ++ [n - 1, n]

def lenB (n : Int) : Nat := (binT 8 n).length

theorem binT_ok : ∀ n : Nat, n < 101 → n = 0 ∨ (chainB [1] (binT 8 n) = true ∧ lastD ([1] ++ binT 8 n) = n ∧ lenB n ≤ 12) := by decide +kernel

theorem star_bin {n : Int} (h0 : 1 ≤ n) (h1 : n ≤ 100) : allS n (lenB n) [1] ≠ [] ∧ lenB n ≤ 12 := by
  have h := binT_ok n.toNat (by omega)
  rw [show ((n.toNat : Nat) : Int) = n by omega] at h
  rcases h with h | ⟨h2, h3, h4⟩
  · omega
  · refine ⟨fun e => ?_, h4⟩
    have := allS_mem _ _ h2 h3
    rw [show (binT 8 n).length = lenB n from rfl, e] at this
    simp at this

/-- The least length at which there is one. -/
def leastK (n : Int) : Nat → Nat → Nat
  | 0, k => k
  | f + 1, k => if allS n k [1] = [] then leastK n f (k + 1) else k

theorem leastK_ok {n : Int} : ∀ (f k m : Nat), k ≤ m → m ≤ k + f → allS n m [1] ≠ [] → k ≤ leastK n f k ∧ leastK n f k ≤ m ∧ allS n (leastK n f k) [1] ≠ [] ∧ ∀ j, k ≤ j → j < leastK n f k → allS n j [1] = []
  | 0, k, m, h1, h2, h => by
    have : m = k := by omega
    subst this
    rw [leastK]
    exact ⟨by omega, by omega, h, fun j a b => by omega⟩
  | f + 1, k, m, h1, h2, h => by
    rw [leastK]
    by_cases he : allS n k [1] = []
    · rw [if_pos he]
      have hkm : k ≠ m := fun e => h (e ▸ he)
      obtain ⟨a1, a2, a3, a4⟩ := leastK_ok f (k + 1) m (by omega) (by omega) h
      refine ⟨by omega, a2, a3, fun j b1 b2 => ?_⟩
      by_cases hj : j = k
      · rw [hj]; exact he
      · exact a4 j (by omega) b2
    · rw [if_neg he]
      exact ⟨by omega, by
        refine Classical.byContradiction fun hc => ?_
        omega, he, fun j a b => by omega⟩

/-- The length of the shortest star chain. -/
def shK (n : Int) : Nat := leastK n 12 0

theorem shK_ok {n : Int} (h0 : 1 ≤ n) (h1 : n ≤ 100) : shK n ≤ lenB n ∧ shK n ≤ 12 ∧ allS n (shK n) [1] ≠ [] ∧ ∀ j, j < shK n → allS n j [1] = [] := by
  obtain ⟨a1, a2⟩ := star_bin h0 h1
  obtain ⟨b1, b2, b3, b4⟩ := leastK_ok (n := n) 12 0 (lenB n) (by omega) (by omega) a1
  exact ⟨b2, by have : leastK n 12 0 = shK n := rfl; omega, b3, fun j h => b4 j (by omega) h⟩

/-! ### The reference's search -/
theorem lastD_at {c : List Int} (hg : goodC c) : c[((c.length : Int) - 1).toNat]? = some (lastD c) := by
  have hne := hg.1
  have hl : 0 < c.length := List.length_pos_iff.2 hne
  rw [show ((c.length : Int) - 1).toNat = c.length - 1 by omega, ← List.getLast?_eq_getElem?, lastD]
  cases c with
  | nil => exact absurd rfl hne
  | cons x l => simp [List.getLastD, List.getLast?]

theorem shl_small {m : Int} {k : Nat} (hk : k ≤ 12) (h0 : 0 ≤ m) (h1 : m ≤ 200) : IntKind.i64.wrap (m * 2 ^ min (((k + 1 : Nat) : Int) - 1).toNat IntKind.i64.bits) = m * 2 ^ k := by
  have e : min (((k + 1 : Nat) : Int) - 1).toNat IntKind.i64.bits = k := by
    have : IntKind.i64.bits = 64 := rfl
    omega
  rw [e]
  obtain ⟨hp, hp0⟩ := (show ∀ j : Nat, j < 13 → (2 : Int) ^ j ≤ 4096 ∧ (0 : Int) < 2 ^ j by decide) k (by omega)
  have h2 : m * 2 ^ k ≤ 200 * 4096 := Int.mul_le_mul h1 hp (by omega) (by omega)
  have h3 : 0 ≤ m * 2 ^ k := Int.mul_nonneg h0 (by omega)
  exact IntWalk.i64_in _ ⟨by omega, by omega⟩

/-! ### The program's search -/
theorem perm_in2 (M Lr : List It) (x y : It) : (x :: y :: (M ++ Lr)).Perm (M ++ (x :: y :: Lr)) :=
  ((List.perm_middle (l₁ := M) (a := y) (l₂ := Lr)).symm.cons x).trans (List.perm_middle (l₁ := M) (a := x) (l₂ := y :: Lr)).symm

theorem shl_small' {m z : Int} {k : Nat} (hz : z = k) (hk : k ≤ 12) (h0 : 0 ≤ m) (h1 : m ≤ 200) : IntKind.i64.wrap (m * 2 ^ min z.toNat IntKind.i64.bits) = m * 2 ^ k := by
  have := shl_small (m := m) (k := k) hk h0 h1
  rw [show ((k + 1 : Nat) : Int) - 1 = z by omega] at this
  exact this

theorem foldU_good {σ : Type} {step : σ → List Int → σ × Bool} {Good : σ → Prop} (hG : ∀ s c, Good s → (step s c).2 = false → Good (step s c).1) : ∀ (l : List (List Int)) (s : σ), Good s → (foldU step s l).2 = false → Good (foldU step s l).1
  | [], s, h, _ => h
  | c :: l, s, h, e => by
    rw [foldU] at e ⊢
    by_cases hc : (step s c).2 = true
    · rw [if_pos hc] at e; cases e
    · rw [if_neg hc] at e ⊢
      exact foldU_good hG l _ (hG s c h (by simpa using hc)) e

theorem stars_ac {σ : Type} (n : Int) (hn : 1 ≤ n ∧ n ≤ 100) (len : Nat) (hlen : len ≤ 12) (g : FuncId) (caps : List AV) (step : σ → List Int → σ × Bool) (R : σ → List It → Prop) (Good : σ → Prop)
    (hG : ∀ s c, Good s → (step s c).2 = false → Good (step s c).1)
    (hE : ∀ (s : σ) (c : List Int) (w : AV) (h0 h : AH) (M Lr : List It), Good s → R s M → Loq h0 h (M ++ Lr) → (∀ h', Loq h0 h' Lr → Rd h' w c) → c.length ≤ 13 → AC Try.prog g (w :: caps) h (fun r h' => ∃ N, (∃ M1, r = .b (step s c).2 ∧ R (step s c).1 M1 ∧ N = M1 ++ Lr) ∧ Loq h0 h' N)) :
    ∀ (k : Nat) (c : List Int) (w : AV) (s : σ) (h0 h : AH) (M Lr : List It), c.length + k = len + 1 → goodC c → lastD c ≤ 200 → Good s → R s M → Loq h0 h (M ++ Lr) → (∀ h', Loq h0 h' Lr → Rd h' w c) →
    AC Try.prog 70 [.i .i64 n, .i .i64 (len : Nat), w, .f g caps] h (fun r h' => ∃ N, (∃ M1, r = .b (foldU step s (allS n k c)).2 ∧ R (foldU step s (allS n k c)).1 M1 ∧ N = M1 ++ Lr) ∧ Loq h0 h' N)
  | 0, c, w, s, h0, h, M, Lr, hk, hg, hl, hs, hRs, HL, hw => by
    have hR := hw h (HL.sub (List.sublist_append_right _ _))
    have hln := hR.len
    have hcl : 0 < c.length := List.length_pos_iff.2 hg.1
    refine e70 _ _ _ _ fun wf => ?_
    unfold c70
    refine LI_startL HL ?_
    refine W ?_
    refine LS_ix (y := lastD c) (fun h' HL' => hw h' (HL'.sub (List.sublist_append_right _ _))) enI1 (lastD_at hg) (by omega) rfl rfl fun q1 o1 hrow1 => ?_
    try (dsimp only [st, setL, AV.cells, List.set_cons_zero, List.set_cons_succ, List.drop_zero, List.drop_succ_cons, List.take_zero, List.take_succ_cons, Nat.zero_add, Nat.add_zero, Nat.reduceAdd, List.cons_append, List.nil_append, List.eraseIdx_cons_zero, List.eraseIdx_cons_succ])
    refine W ?_
    first | (refine LS_gyH rfl (decide_eq_true (by omega)) ?_; intro hg) | (refine LI_cond_tH rfl (decide_eq_true (by omega)) ?_; intro hg)
    refine W ?_
    (first | refine LS_gt rfl ?_ ?_ | refine LS_gf rfl ?_ ?_ | refine LI_cond rfl ?_ ?_) <;> intro hc <;> have hc' := hc <;> try simp only [decide_eq_true_eq, decide_eq_false_iff_not, Bool.not_eq_true', Bool.not_eq_false', Bool.not_eq_true, Bool.not_eq_false, beq_iff_eq, bne_iff_ne, beq_eq_false_iff_ne, bne_eq_false_iff_eq, Int.not_lt, Int.not_le, ge_iff_le, gt_iff_lt, not_and, ne_eq, Decidable.not_not] at hc'
    all_goals (try (dsimp only [st, setL, AV.cells, List.set_cons_zero, List.set_cons_succ, List.drop_zero, List.drop_succ_cons, List.take_zero, List.take_succ_cons, Nat.zero_add, Nat.add_zero, Nat.reduceAdd, List.cons_append, List.nil_append, List.eraseIdx_cons_zero, List.eraseIdx_cons_succ]))
    all_goals (refine W ?_)
    · have e : lastD c = n := by first | exact hc' | simpa using hc
      refine LS_cm (.refl _) (fun h' HL' wf => hE s c w h0 h' M Lr hs hRs HL' hw (by omega)) rfl rfl ?_
      try (dsimp only [st, setL, AV.cells, List.set_cons_zero, List.set_cons_succ, List.drop_zero, List.drop_succ_cons, List.take_zero, List.take_succ_cons, Nat.zero_add, Nat.add_zero, Nat.reduceAdd, List.cons_append, List.nil_append, List.eraseIdx_cons_zero, List.eraseIdx_cons_succ])
      refine W ?_
      rintro _ _ ⟨M1, rfl, hR1, rfl⟩
      try (dsimp only [st, setL, AV.cells, List.set_cons_zero, List.set_cons_succ, List.drop_zero, List.drop_succ_cons, List.take_zero, List.take_succ_cons, Nat.zero_add, Nat.add_zero, Nat.reduceAdd, List.cons_append, List.nil_append, List.eraseIdx_cons_zero, List.eraseIdx_cons_succ])
      refine W ?_
      refine RET fun h' HL => ?_
      try dsimp only [oneA]
      have e2 : foldU step s (allS n 0 c) = step s c := by
        rw [allS, if_pos e, foldU]
        by_cases hb : (step s c).2 = true
        · rw [if_pos hb, ← hb]
        · rw [if_neg hb, foldU]
          have : (step s c).2 = false := by simpa using hb
          rw [← this]
      exact ⟨_, ⟨M1, by rw [e2], by rw [e2]; exact hR1, rfl⟩, HL⟩
    · have e : lastD c ≠ n := by first | exact hc' | simpa using hc
      refine RET fun h' HL => ?_
      try dsimp only [oneA]
      have e2 : foldU step s (allS n 0 c) = (s, false) := by rw [allS, if_neg e, foldU]
      exact ⟨_, ⟨M, by rw [e2], by rw [e2]; exact hRs, rfl⟩, HL⟩
  | k + 1, c, w, s, h0, h, M, Lr, hk, hgc, hl, hs, hRs, HL, hw => by
    have hR := hw h (HL.sub (List.sublist_append_right _ _))
    have hln := hR.len
    have hcl : 0 < c.length := List.length_pos_iff.2 hgc.1
    have hl1 := hgc.last
    obtain ⟨A, hA⟩ : ∃ A : Nat → σ × Bool, A = fun m => foldU step s ((c.take m).flatMap fun x => allS n k (c ++ [lastD c + x])) := ⟨_, rfl⟩
    have hA0 : A 0 = (s, false) := by rw [hA]; simp [foldU]
    have hAs : ∀ (m : Nat) (x : Int), c[m]? = some x → (A m).2 = false → A (m + 1) = foldU step (A m).1 (allS n k (c ++ [lastD c + x])) := by
      intro m x hx hf
      rw [hA] at hf ⊢
      show foldU step s ((c.take (m + 1)).flatMap _) = _
      rw [take_snoc hx, List.flatMap_append, foldU_app, if_neg (by rw [hf]; simp)]
      simp
    have hAall : ∀ m, (A m).2 = true → foldU step s (allS n (k + 1) c) = A m := by
      intro m hm
      rw [hA] at hm ⊢
      have e : allS n (k + 1) c = ((c.take m).flatMap fun x => allS n k (c ++ [lastD c + x])) ++ ((c.drop m).flatMap fun x => allS n k (c ++ [lastD c + x])) := by
        rw [← List.flatMap_append, List.take_append_drop]; rfl
      rw [e, foldU_app, if_pos hm]
    have hAend : A c.length = foldU step s (allS n (k + 1) c) := by
      rw [hA]
      show foldU step s ((c.take c.length).flatMap _) = _
      rw [List.take_length]; rfl
    have hAg : ∀ m, (A m).2 = false → Good (A m).1 := by
      intro m hm
      rw [hA] at hm ⊢
      exact foldU_good hG _ s hs hm
    refine e70 _ _ _ _ fun wf => ?_
    unfold c70
    refine LI_startL HL ?_
    refine W ?_
    refine LS_ix (y := lastD c) (fun h' HL' => hw h' (HL'.sub (List.sublist_append_right _ _))) enI1 (lastD_at hgc) (by omega) rfl rfl fun q1 o1 hrow1 => ?_
    try (dsimp only [st, setL, AV.cells, List.set_cons_zero, List.set_cons_succ, List.drop_zero, List.drop_succ_cons, List.take_zero, List.take_succ_cons, Nat.zero_add, Nat.add_zero, Nat.reduceAdd, List.cons_append, List.nil_append, List.eraseIdx_cons_zero, List.eraseIdx_cons_succ])
    refine W ?_
    first | (refine LS_gtnH rfl (decide_eq_false (by omega)) ?_; intro hg; try (dsimp only [st, setL, AV.cells, List.set_cons_zero, List.set_cons_succ, List.drop_zero, List.drop_succ_cons, List.take_zero, List.take_succ_cons, Nat.zero_add, Nat.add_zero, Nat.reduceAdd, List.cons_append, List.nil_append, List.eraseIdx_cons_zero, List.eraseIdx_cons_succ])) | (refine LS_gfnH rfl (decide_eq_false (by omega)) ?_; intro hg; try (dsimp only [st, setL, AV.cells, List.set_cons_zero, List.set_cons_succ, List.drop_zero, List.drop_succ_cons, List.take_zero, List.take_succ_cons, Nat.zero_add, Nat.add_zero, Nat.reduceAdd, List.cons_append, List.nil_append, List.eraseIdx_cons_zero, List.eraseIdx_cons_succ])) | (refine LI_cond_fH rfl (decide_eq_false (by omega)) ?_; intro hg)
    refine W ?_
    (first | refine LS_gt rfl ?_ ?_ | refine LS_gf rfl ?_ ?_ | refine LI_cond rfl ?_ ?_) <;> intro hc <;> have hc' := hc <;> try simp only [decide_eq_true_eq, decide_eq_false_iff_not, Bool.not_eq_true', Bool.not_eq_false', Bool.not_eq_true, Bool.not_eq_false, beq_iff_eq, bne_iff_ne, beq_eq_false_iff_ne, bne_eq_false_iff_eq, Int.not_lt, Int.not_le, ge_iff_le, gt_iff_lt, not_and, ne_eq, Decidable.not_not] at hc'
    all_goals (try (dsimp only [st, setL, AV.cells, List.set_cons_zero, List.set_cons_succ, List.drop_zero, List.drop_succ_cons, List.take_zero, List.take_succ_cons, Nat.zero_add, Nat.add_zero, Nat.reduceAdd, List.cons_append, List.nil_append, List.eraseIdx_cons_zero, List.eraseIdx_cons_succ]))
    all_goals (refine W ?_)
    · refine LS_v (OpV_shl rfl rfl (by omega)) ?_
      try (dsimp only [st, setL, AV.cells, List.set_cons_zero, List.set_cons_succ, List.drop_zero, List.drop_succ_cons, List.take_zero, List.take_succ_cons, Nat.zero_add, Nat.add_zero, Nat.reduceAdd, List.cons_append, List.nil_append, List.eraseIdx_cons_zero, List.eraseIdx_cons_succ])
      refine W ?_
      rw [shl_small' (m := lastD c) (z := (len : Int) - c.length + 1) (k := k + 1) (by omega) (by omega) (by omega) (by omega)]
      refine W ?_
      (first | refine LS_gt rfl ?_ ?_ | refine LS_gf rfl ?_ ?_ | refine LI_cond rfl ?_ ?_) <;> intro hc <;> have hc' := hc <;> try simp only [decide_eq_true_eq, decide_eq_false_iff_not, Bool.not_eq_true', Bool.not_eq_false', Bool.not_eq_true, Bool.not_eq_false, beq_iff_eq, bne_iff_ne, beq_eq_false_iff_ne, bne_eq_false_iff_eq, Int.not_lt, Int.not_le, ge_iff_le, gt_iff_lt, not_and, ne_eq, Decidable.not_not] at hc'
      all_goals (try (dsimp only [st, setL, AV.cells, List.set_cons_zero, List.set_cons_succ, List.drop_zero, List.drop_succ_cons, List.take_zero, List.take_succ_cons, Nat.zero_add, Nat.add_zero, Nat.reduceAdd, List.cons_append, List.nil_append, List.eraseIdx_cons_zero, List.eraseIdx_cons_succ]))
      all_goals (refine W ?_)
      · have e2 : foldU step s (allS n (k + 1) c) = (s, false) := by rw [allS_lt (k + 1) c hgc hc', foldU]
        refine RET fun h' HL => ?_
        try dsimp only [oneA]
        exact ⟨_, ⟨M, by rw [e2], by rw [e2]; exact hRs, rfl⟩, HL⟩
      · refine LIL_ind (fun j a L => ∃ (M' : List It) (i : Int), (∃ r : Nat → AV, a = [.i .i64 n, .i .i64 (len : Nat), w, .f g caps, r 4, r 5, r 6, r 7, r 8, .i .i64 (lastD c), r 10, r 11, r 12, r 13, r 14, r 15, r 16, r 17, r 18, r 19, r 20, r 21, r 22, r 23, r 24, r 25, r 26, r 27, r 28, r 29, r 30, r 31, r 32, r 33, r 34, r 35, r 36, r 37, r 38, r 39, r 40, r 41, r 42, r 43, r 44, r 45, w, .i .i64 c.length, .i .i64 i, r 49, r 50, r 51, r 52, r 53, r 54, r 55, r 56, r 57, r 58, r 59, r 60, r 61, r 62, r 63]) ∧ L = M' ++ Lr ∧ 0 ≤ i ∧ i + j = c.length ∧ (A i.toNat).2 = false ∧ R (A i.toNat).1 M')
          c.length ⟨M, 0, exJ rfl, rfl, by omega, by omega, by rw [show (0 : Int).toNat = 0 from rfl, hA0], by rw [show (0 : Int).toNat = 0 from rfl, hA0]; exact hRs⟩ ?_
        rintro j a _ ⟨M', i, ⟨r, rfl⟩, rfl, h0', hj, hAf, hRi⟩ IH
        refine W ?_
        (first | refine LS_gt rfl ?_ ?_ | refine LS_gf rfl ?_ ?_ | refine LI_cond rfl ?_ ?_) <;> intro hc <;> have hc' := hc <;> try simp only [decide_eq_true_eq, decide_eq_false_iff_not, Bool.not_eq_true', Bool.not_eq_false', Bool.not_eq_true, Bool.not_eq_false, beq_iff_eq, bne_iff_ne, beq_eq_false_iff_ne, bne_eq_false_iff_eq, Int.not_lt, Int.not_le, ge_iff_le, gt_iff_lt, not_and, ne_eq, Decidable.not_not] at hc'
        all_goals (try (dsimp only [st, setL, AV.cells, List.set_cons_zero, List.set_cons_succ, List.drop_zero, List.drop_succ_cons, List.take_zero, List.take_succ_cons, Nat.zero_add, Nat.add_zero, Nat.reduceAdd, List.cons_append, List.nil_append, List.eraseIdx_cons_zero, List.eraseIdx_cons_succ]))
        all_goals (refine W ?_)
        · obtain ⟨x, hx, hxm, _⟩ := drop_at (l := c) h0' hc'
          have hxb := hgc.2 x hxm
          refine LS_ix (fun h' HL' => hw h' (HL'.sub (List.sublist_append_right _ _))) enI1 hx h0' rfl rfl fun q2 o2 hrow2 => ?_
          try (dsimp only [st, setL, AV.cells, List.set_cons_zero, List.set_cons_succ, List.drop_zero, List.drop_succ_cons, List.take_zero, List.take_succ_cons, Nat.zero_add, Nat.add_zero, Nat.reduceAdd, List.cons_append, List.nil_append, List.eraseIdx_cons_zero, List.eraseIdx_cons_succ])
          refine W ?_
          refine LS_c0 (fun h' HL' wf => Clip_ac c w h' (hw h' (HL'.sub (List.sublist_append_right _ _))) (by omega)) rfl rfl ?_
          try (dsimp only [st, setL, AV.cells, List.set_cons_zero, List.set_cons_succ, List.drop_zero, List.drop_succ_cons, List.take_zero, List.take_succ_cons, Nat.zero_add, Nat.add_zero, Nat.reduceAdd, List.cons_append, List.nil_append, List.eraseIdx_cons_zero, List.eraseIdx_cons_succ])
          refine W ?_
          refine LS_lt [lastD c + x] rfl rfl (by decide) rfl rfl rfl rfl enI1 rfl rfl fun w2 lw2 sw2 => ?_
          try (dsimp only [st, setL, AV.cells, List.set_cons_zero, List.set_cons_succ, List.drop_zero, List.drop_succ_cons, List.take_zero, List.take_succ_cons, Nat.zero_add, Nat.add_zero, Nat.reduceAdd, List.cons_append, List.nil_append, List.eraseIdx_cons_zero, List.eraseIdx_cons_succ])
          refine W ?_
          refine LS_o (LO_apc (clipA_c hR) (fun h' HL' => clipA_rd (hw h' (HL'.sub (.cons _ (List.sublist_append_right _ _))))) (fun h' HL' => HL'.rdI 0 rfl enI1 (by decide)) enI1 (by decide) (by simp) (by simp; omega) (by simp; omega) rfl rfl rfl fun w3 lw3 sw3 => ?_)
          try (dsimp only [st, setL, AV.cells, List.set_cons_zero, List.set_cons_succ, List.drop_zero, List.drop_succ_cons, List.take_zero, List.take_succ_cons, Nat.zero_add, Nat.add_zero, Nat.reduceAdd, List.cons_append, List.nil_append, List.eraseIdx_cons_zero, List.eraseIdx_cons_succ])
          refine W ?_
          refine LS_cm (perm_in2 M' Lr _ _) (fun h' HL' wf => stars_ac n hn len hlen g caps step R Good hG hE k (c ++ [lastD c + x]) w3 (A i.toNat).1 h0 h' M' (.sl w3 1 ((c ++ [lastD c + x]).flatMap enI) :: .sl w2 1 ([lastD c + x].flatMap enI) :: Lr) (by simp; omega) (goodC_snoc hgc hxm) (by rw [lastD_snoc]; omega) (hAg _ hAf) hRi HL' (fun h2 HL2 => HL2.rdI 0 rfl enI1 (by decide))) rfl rfl ?_
          try (dsimp only [st, setL, AV.cells, List.set_cons_zero, List.set_cons_succ, List.drop_zero, List.drop_succ_cons, List.take_zero, List.take_succ_cons, Nat.zero_add, Nat.add_zero, Nat.reduceAdd, List.cons_append, List.nil_append, List.eraseIdx_cons_zero, List.eraseIdx_cons_succ])
          refine W ?_
          rintro _ _ ⟨M1, rfl, hR1, rfl⟩
          try (dsimp only [st, setL, AV.cells, List.set_cons_zero, List.set_cons_succ, List.drop_zero, List.drop_succ_cons, List.take_zero, List.take_succ_cons, Nat.zero_add, Nat.add_zero, Nat.reduceAdd, List.cons_append, List.nil_append, List.eraseIdx_cons_zero, List.eraseIdx_cons_succ])
          rw [← hAs _ _ hx hAf] at hR1 ⊢
          refine W ?_
          (first | refine LS_gt rfl ?_ ?_ | refine LS_gf rfl ?_ ?_ | refine LI_cond rfl ?_ ?_) <;> intro hc <;> have hc' := hc <;> try simp only [decide_eq_true_eq, decide_eq_false_iff_not, Bool.not_eq_true', Bool.not_eq_false', Bool.not_eq_true, Bool.not_eq_false, beq_iff_eq, bne_iff_ne, beq_eq_false_iff_ne, bne_eq_false_iff_eq, Int.not_lt, Int.not_le, ge_iff_le, gt_iff_lt, not_and, ne_eq, Decidable.not_not] at hc'
          all_goals (try (dsimp only [st, setL, AV.cells, List.set_cons_zero, List.set_cons_succ, List.drop_zero, List.drop_succ_cons, List.take_zero, List.take_succ_cons, Nat.zero_add, Nat.add_zero, Nat.reduceAdd, List.cons_append, List.nil_append, List.eraseIdx_cons_zero, List.eraseIdx_cons_succ]))
          all_goals (refine W ?_)
          · have e3 := hAall _ hc
            refine RET fun h' HL => ?_
            try dsimp only [oneA]
            exact ⟨_, ⟨M1, by rw [e3, hc], by rw [e3]; exact hR1, rfl⟩, HL.sub (List.Sublist.append (List.Sublist.refl _) (.cons _ (.cons _ (.refl _))))⟩
          · refine LIL_sub (L' := M1 ++ Lr) (List.Sublist.append (List.Sublist.refl _) (.cons _ (.cons _ (.refl _)))) ?_
            refine IH (j - 1) _ _ (by omega) ⟨M1, i + 1, exJ rfl, rfl, by omega, by omega, by rw [toNat_succ h0']; exact hc, by rw [toNat_succ h0']; exact hR1⟩
        · have ei : i.toNat = c.length := by omega
          rw [ei] at hAf hRi
          rw [hAend] at hAf hRi
          refine RET fun h' HL => ?_
          try dsimp only [oneA]
          exact ⟨_, ⟨M', by rw [hAf], hRi, rfl⟩, HL⟩
    · have e2 : foldU step s (allS n (k + 1) c) = (s, false) := by rw [allS_ge k c hgc (by omega), foldU]
      refine RET fun h' HL => ?_
      try dsimp only [oneA]
      exact ⟨_, ⟨M, by rw [e2], by rw [e2]; exact hRs, rfl⟩, HL⟩

def firstL (n : Int) (k : Nat) : List Int := ((allS n k [1]).head?).getD []

def hasS (n : Int) (k : Nat) : Bool := !(allS n k [1]).isEmpty

theorem hasS_iff {n : Int} {k : Nat} : hasS n k = true ↔ allS n k [1] ≠ [] := by unfold hasS; cases allS n k [1] <;> simp

theorem hasS_yes {n : Int} {k : Nat} (h : hasS n k = true) : ∃ l, allS n k [1] = firstL n k :: l := by
  unfold hasS at h; unfold firstL
  cases e : allS n k [1] with
  | nil => rw [e] at h; simp at h
  | cons c l => exact ⟨l, by simp⟩

theorem fold_first (n : Int) (k : Nat) : foldU (fun (_ : List Int) c => (c, true)) [] (allS n k [1]) = (firstL n k, hasS n k) := by
  unfold firstL hasS
  cases allS n k [1] <;> simp [foldU]

theorem shK_has {n : Int} (h0 : 1 ≤ n) (h1 : n ≤ 100) : hasS n (shK n) = true := hasS_iff.2 (shK_ok h0 h1).2.2.1

theorem shK_low {n : Int} (h0 : 1 ≤ n) (h1 : n ≤ 100) {j : Nat} (h : hasS n j = true) : shK n ≤ j := by
  refine Classical.byContradiction fun hc => ?_
  exact (hasS_iff.1 h) ((shK_ok h0 h1).2.2.2 j (by omega))

def Rfs (b : Nat) (s : List Int) (M : List It) : Prop := ∃ v, v.sc = true ∧ lenA v = some s.length ∧ M = [.pt b [v], .sl v 1 (s.flatMap enI)]

theorem firstStar1_ac (b : Nat) (s c : List Int) (w : AV) (h0 h : AH) (M Lr : List It) (hRs : Rfs b s M) (HL : Loq h0 h (M ++ Lr)) (hw : ∀ h', Loq h0 h' Lr → Rd h' w c) (hc : c.length ≤ 13) :
    AC Try.prog 89 [w, .p b 0] h (fun r h' => ∃ N, (∃ M1, r = .b true ∧ Rfs b c M1 ∧ N = M1 ++ Lr) ∧ Loq h0 h' N) := by
  obtain ⟨v, sv, lv, rfl⟩ := hRs
  refine e89 _ _ fun wf => ?_
  unfold c89
  refine LI_startL HL ?_
  refine W ?_
  refine LS_co (fun h' HL' wf => Clone_int_ac c w h' (hw h' (loq_dr 2 rfl HL')) (by omega)) enI1 rfl rfl fun v2 lv2 sv2 => ?_
  try (dsimp only [st, setL, AV.cells, List.set_cons_zero, List.set_cons_succ, List.drop_zero, List.drop_succ_cons, List.take_zero, List.take_succ_cons, Nat.zero_add, Nat.add_zero, Nat.reduceAdd, List.cons_append, List.nil_append, List.eraseIdx_cons_zero, List.eraseIdx_cons_succ])
  refine W ?_
  refine RET fun h' HL => ?_
  try dsimp only [oneA]
  exact ⟨_, ⟨_, rfl, ⟨v2, sv2, lv2, rfl⟩, rfl⟩, HL.swap.sub (.cons_cons _ (.cons_cons _ (.cons _ (.refl _))))⟩

theorem perm3 (x y z : It) : [x, y, z].Perm [y, z, x] := (List.perm_append_comm (l₁ := [x]) (l₂ := [y, z]))

theorem firstStar_ac (n len : Int) (h : AH) (hn : 1 ≤ n ∧ n ≤ 100) (hk : 0 ≤ len ∧ len ≤ 12) :
    AC Try.prog 61 [.i .i64 n, .i .i64 len] h (fun r h' => ∃ M, TupI (firstL n len.toNat) (hasS n len.toNat) r M ∧ Loq h h' M) := by
  refine e61 _ _ fun wf => ?_
  unfold c61
  refine LI_start wf ?_
  refine W ?_
  refine LS_lt ([] : List Int) rfl rfl (by decide) rfl rfl rfl rfl enI1 rfl rfl fun w1 lw1 sw1 => ?_
  try (dsimp only [st, setL, AV.cells, List.set_cons_zero, List.set_cons_succ, List.drop_zero, List.drop_succ_cons, List.take_zero, List.take_succ_cons, Nat.zero_add, Nat.add_zero, Nat.reduceAdd, List.cons_append, List.nil_append, List.eraseIdx_cons_zero, List.eraseIdx_cons_succ])
  refine W ?_
  refine LS_al rfl fun b2 => ?_
  try (dsimp only [st, setL, AV.cells, List.set_cons_zero, List.set_cons_succ, List.drop_zero, List.drop_succ_cons, List.take_zero, List.take_succ_cons, Nat.zero_add, Nat.add_zero, Nat.reduceAdd, List.cons_append, List.nil_append, List.eraseIdx_cons_zero, List.eraseIdx_cons_succ])
  refine W ?_
  refine LS_lt [1] rfl rfl (by decide) rfl rfl rfl rfl enI1 rfl rfl fun w3 lw3 sw3 => ?_
  try (dsimp only [st, setL, AV.cells, List.set_cons_zero, List.set_cons_succ, List.drop_zero, List.drop_succ_cons, List.take_zero, List.take_succ_cons, Nat.zero_add, Nat.add_zero, Nat.reduceAdd, List.cons_append, List.nil_append, List.eraseIdx_cons_zero, List.eraseIdx_cons_succ])
  refine W ?_
  refine LS_cm (perm3 _ _ _) (fun h' HL' wf => by have H := stars_ac n hn len.toNat (by omega) 89 [.p b2 0] (fun _ c => (c, true)) (Rfs b2) (fun _ => True) (fun _ _ _ _ => trivial) (fun s c w h0 h M Lr _ hRs HL hw hc => firstStar1_ac b2 s c w h0 h M Lr hRs HL hw hc) len.toNat [1] w3 [] h h' [.pt b2 [w1], .sl w1 1 (([] : List Int).flatMap enI)] [.sl w3 1 ([1].flatMap enI)] (by simp; omega) goodC_one (by simp [lastD]) trivial ⟨w1, sw1, lw1, rfl⟩ HL' (fun h2 HL2 => HL2.rdI 0 rfl enI1 (by decide)); rw [show ((len.toNat : Nat) : Int) = len by omega] at H; simp only [fold_first] at H; exact H) rfl rfl ?_
  try (dsimp only [st, setL, AV.cells, List.set_cons_zero, List.set_cons_succ, List.drop_zero, List.drop_succ_cons, List.take_zero, List.take_succ_cons, Nat.zero_add, Nat.add_zero, Nat.reduceAdd, List.cons_append, List.nil_append, List.eraseIdx_cons_zero, List.eraseIdx_cons_succ])
  refine W ?_
  rintro _ _ ⟨_, rfl, ⟨v, sv, lv, rfl⟩, rfl⟩
  try (dsimp only [st, setL, AV.cells, List.set_cons_zero, List.set_cons_succ, List.drop_zero, List.drop_succ_cons, List.take_zero, List.take_succ_cons, Nat.zero_add, Nat.add_zero, Nat.reduceAdd, List.cons_append, List.nil_append, List.eraseIdx_cons_zero, List.eraseIdx_cons_succ])
  refine W ?_
  refine RET fun h' HL => ?_
  try dsimp only [oneA]
  exact ⟨_, ⟨v, rfl, lv, sv, rfl⟩, HL.sel [1] (by decide)⟩

theorem shortest_ac (n : Int) (h : AH) (hn : 1 ≤ n ∧ n ≤ 100) : AC Try.prog 68 [.i .i64 n] h (fun r h' => Own h 1 enI h' r (firstL n (shK n))) := by
  have hK := shK_ok hn.1 hn.2
  refine e68 _ fun wf => ?_
  unfold c68
  refine LI_start wf ?_
  refine W ?_
  refine LIL_ind (fun j a L => ∃ (i : Int), (∃ r : Nat → AV, a = [.i .i64 n, r 1, r 2, .i .i64 i, r 4, r 5, r 6, r 7, r 8, r 9, r 10, r 11, r 12, r 13, r 14, r 15]) ∧ L = [] ∧ 0 ≤ i ∧ i + j = shK n)
    (shK n) ⟨0, exJ rfl, rfl, by omega, by omega⟩ ?_
  rintro j a _ ⟨i, ⟨r, rfl⟩, rfl, h0, hj⟩ IH
  refine W ?_
  refine LS_c1 (fun h' HL wf => firstStar_ac n i h' hn (by omega)) rfl rfl ?_
  try (dsimp only [st, setL, AV.cells, List.set_cons_zero, List.set_cons_succ, List.drop_zero, List.drop_succ_cons, List.take_zero, List.take_succ_cons, Nat.zero_add, Nat.add_zero, Nat.reduceAdd, List.cons_append, List.nil_append, List.eraseIdx_cons_zero, List.eraseIdx_cons_succ])
  refine W ?_
  rintro _ _ ⟨w, rfl, lw, sw, rfl⟩
  try (dsimp only [st, setL, AV.cells, List.set_cons_zero, List.set_cons_succ, List.drop_zero, List.drop_succ_cons, List.take_zero, List.take_succ_cons, Nat.zero_add, Nat.add_zero, Nat.reduceAdd, List.cons_append, List.nil_append, List.eraseIdx_cons_zero, List.eraseIdx_cons_succ])
  refine W ?_
  (first | refine LS_gt rfl ?_ ?_ | refine LS_gf rfl ?_ ?_ | refine LI_cond rfl ?_ ?_) <;> intro hc <;> have hc' := hc <;> try simp only [decide_eq_true_eq, decide_eq_false_iff_not, Bool.not_eq_true', Bool.not_eq_false', Bool.not_eq_true, Bool.not_eq_false, beq_iff_eq, bne_iff_ne, beq_eq_false_iff_ne, bne_eq_false_iff_eq, Int.not_lt, Int.not_le, ge_iff_le, gt_iff_lt, not_and, ne_eq, Decidable.not_not] at hc'
  all_goals (try (dsimp only [st, setL, AV.cells, List.set_cons_zero, List.set_cons_succ, List.drop_zero, List.drop_succ_cons, List.take_zero, List.take_succ_cons, Nat.zero_add, Nat.add_zero, Nat.reduceAdd, List.cons_append, List.nil_append, List.eraseIdx_cons_zero, List.eraseIdx_cons_succ]))
  all_goals (refine W ?_)
  · have e := shK_low hn.1 hn.2 hc
    have ei : i.toNat = shK n := by omega
    rw [ei]
    refine RET fun h' HL => ?_
    try dsimp only [oneA]
    exact HL.ownI 0 rfl enI1 (by decide)
  · have e : i.toNat ≠ shK n := fun e => by rw [e, shK_has hn.1 hn.2] at hc; cases hc
    refine LIL_drop 1 ?_
    refine IH (j - 1) _ _ (by omega) ⟨i + 1, exJ rfl, rfl, by omega, by omega⟩

def shOk (n : Int) : Bool := decide (1 ≤ n ∧ n ≤ 100)

/-! ### The counts of chains that go on -/
theorem geti {l : List Int} {i : Nat} (h : i < l.length) : l[i]? = some (l.getD i 0) := by
  simp only [List.getD, List.getElem?_eq_getElem h, Option.getD_some]

theorem starLen_ac (n : Int) (h : AH) : AC Try.prog 36 [.i .i64 n] h (fun r h' => r = .tup [.i .i64 (if shOk n = true then (shK n : Int) else 0), .b (shOk n)] ∧ h.le h') := by
  refine e36 _ fun wf => ?_
  unfold c36
  refine LI_start wf ?_
  refine W ?_
  refine LS_c0' (fun h' HL wf => isShort_ac n h') rfl rfl ?_
  try (dsimp only [st, setL, AV.cells, List.set_cons_zero, List.set_cons_succ, List.drop_zero, List.drop_succ_cons, List.take_zero, List.take_succ_cons, Nat.zero_add, Nat.add_zero, Nat.reduceAdd, List.cons_append, List.nil_append, List.eraseIdx_cons_zero, List.eraseIdx_cons_succ])
  refine W ?_
  (first | refine LS_gt rfl ?_ ?_ | refine LS_gf rfl ?_ ?_ | refine LI_cond rfl ?_ ?_) <;> intro hc <;> have hc' := hc <;> try simp only [decide_eq_true_eq, decide_eq_false_iff_not, Bool.not_eq_true', Bool.not_eq_false', Bool.not_eq_true, Bool.not_eq_false, beq_iff_eq, bne_iff_ne, beq_eq_false_iff_ne, bne_eq_false_iff_eq, Int.not_lt, Int.not_le, ge_iff_le, gt_iff_lt, not_and, ne_eq, Decidable.not_not] at hc'
  all_goals (try (dsimp only [st, setL, AV.cells, List.set_cons_zero, List.set_cons_succ, List.drop_zero, List.drop_succ_cons, List.take_zero, List.take_succ_cons, Nat.zero_add, Nat.add_zero, Nat.reduceAdd, List.cons_append, List.nil_append, List.eraseIdx_cons_zero, List.eraseIdx_cons_succ]))
  all_goals (refine W ?_)
  · have e : shOk n = false := nt hc
    rw [e, if_neg (by simp)]
    refine RET fun h' HL => ?_
    try dsimp only [oneA]
    exact ⟨rfl, HL.le⟩
  · have e : shOk n = true := nf hc
    have hn : 1 ≤ n ∧ n ≤ 100 := by simpa [shOk] using e
    have hK := shK_ok hn.1 hn.2
    rw [e, if_pos rfl]
    obtain ⟨l, el⟩ := hasS_yes (shK_has hn.1 hn.2)
    have hfl : (firstL n (shK n)).length = shK n + 1 := by
      obtain ⟨t, e, h1, _⟩ := allS_out (shK n) [1] (firstL n (shK n)) (by rw [el]; simp)
      rw [e]; simp; omega
    refine LS_co (fun h' HL wf => shortest_ac n h' hn) enI1 rfl rfl fun w lw sw => ?_
    try (dsimp only [st, setL, AV.cells, List.set_cons_zero, List.set_cons_succ, List.drop_zero, List.drop_succ_cons, List.take_zero, List.take_succ_cons, Nat.zero_add, Nat.add_zero, Nat.reduceAdd, List.cons_append, List.nil_append, List.eraseIdx_cons_zero, List.eraseIdx_cons_succ])
    refine W ?_
    refine RET fun h' HL => ?_
    try dsimp only [oneA]
    exact ⟨by rw [hfl, show ((shK n + 1 : Nat) : Int) - 1 = shK n by omega], HL.le⟩

/-! ### What is a star chain -/
def stepB (pre : List Int) (x : Int) : Bool := pre.any fun y => y == x - lastD pre

def chainA : List Int → List Int → Bool
  | _, [] => true
  | pre, x :: l => stepB pre x && chainA (pre ++ [x]) l

def impG : List Int → List Int → Bool
  | _, [] => true
  | pre, x :: l => (!decide (x ≤ lastD pre) && (!decide (x > 1000000) && stepB pre x)) && impG (pre ++ [x]) l

theorem stepB_mem {pre : List Int} {x : Int} : stepB pre x = true ↔ x - lastD pre ∈ pre := by
  simp only [stepB, List.any_eq_true, beq_iff_eq]
  exact ⟨fun ⟨y, hy, e⟩ => e ▸ hy, fun h => ⟨_, h, rfl⟩⟩

theorem chainA_B : ∀ (l pre : List Int), chainA pre l = chainB pre l
  | [], _ => rfl
  | x :: l, pre => by
    rw [chainA, chainB, chainA_B l]
    congr 1
    rw [Bool.eq_iff_iff, stepB_mem, List.contains_iff_mem]

theorem impG_eq : ∀ (l pre : List Int), goodC pre → impG pre l = (chainA pre l && l.all fun x => decide (1 ≤ x ∧ x ≤ 1000000))
  | [], _, _ => rfl
  | x :: l, pre, hg => by
    rw [impG, chainA, List.all_cons]
    cases hs : stepB pre x
    · simp
    · have hm := stepB_mem.1 hs
      have hb := hg.2 _ hm
      have hl := hg.last
      have hg' : goodC (pre ++ [x]) := by have := goodC_snoc hg hm; rwa [show lastD pre + (x - lastD pre) = x by omega] at this
      rw [impG_eq l _ hg', decide_eq_false (show ¬ x ≤ lastD pre by omega)]
      by_cases hx : x > 1000000
      · rw [decide_eq_true hx, decide_eq_false (show ¬ (1 ≤ x ∧ x ≤ 1000000) by omega)]; simp
      · rw [decide_eq_false hx, decide_eq_true (show 1 ≤ x ∧ x ≤ 1000000 by omega)]; simp

def starC (c : List Int) : Bool := decide ((c.length : Int) ≤ 41) && ((c.all fun x => decide (1 ≤ x ∧ x ≤ 1000000)) && (decide (c.head? = some 1) && chainA [1] (c.drop 1)))

def impC (c : List Int) : Bool := decide (1 ≤ (c.length : Int) ∧ (c.length : Int) ≤ 41) && (decide (c.head? = some 1) && impG [1] (c.drop 1))

theorem impC_eq (c : List Int) : impC c = starC c := by
  unfold impC starC
  cases c with
  | nil => simp
  | cons y l =>
    by_cases hy : y = 1
    · subst hy
      rw [List.drop_one, List.tail_cons, impG_eq l [1] goodC_one, List.all_cons]
      have e : decide (1 ≤ ((1 :: l : List Int).length : Int) ∧ ((1 :: l : List Int).length : Int) ≤ 41) = decide (((1 :: l : List Int).length : Int) ≤ 41) := decide_eq_decide.2 ⟨fun h => h.2, fun h => ⟨by rw [List.length_cons]; omega, h⟩⟩
      rw [e]
      simp
      cases chainA [1] l <;> simp
    · rw [List.head?_cons, decide_eq_false (show ¬ some y = some 1 by simpa using hy)]; simp

theorem lastD_take {c : List Int} {k : Nat} {y : Int} (hy : c[k]? = some y) : lastD (c.take (k + 1)) = y := by
  rw [take_snoc hy, lastD_snoc]

theorem shChain_ac (c : List Int) (v : AV) (h : AH) (hR : Rd h v c) (hl : c.length ≤ 1048576) (hb : ∀ x ∈ c, -1099511627776 ≤ x ∧ x ≤ 1099511627776) :
    AC Try.prog 77 [v] h (fun r h' => r = .b (decide (c.head? = some 1) && chainA [1] (c.drop 1)) ∧ h.le h') := by
  have hln := hR.len
  cases hcc : c with
  | nil =>
    subst hcc
    refine e77 _ fun wf => ?_
    unfold c77
    refine LI_start wf ?_
    refine W ?_
    first | (refine LS_gtnH rfl (by simp) ?_; intro hg; try (dsimp only [st, setL, AV.cells, List.set_cons_zero, List.set_cons_succ, List.drop_zero, List.drop_succ_cons, List.take_zero, List.take_succ_cons, Nat.zero_add, Nat.add_zero, Nat.reduceAdd, List.cons_append, List.nil_append, List.eraseIdx_cons_zero, List.eraseIdx_cons_succ])) | (refine LS_gfnH rfl (by simp) ?_; intro hg; try (dsimp only [st, setL, AV.cells, List.set_cons_zero, List.set_cons_succ, List.drop_zero, List.drop_succ_cons, List.take_zero, List.take_succ_cons, Nat.zero_add, Nat.add_zero, Nat.reduceAdd, List.cons_append, List.nil_append, List.eraseIdx_cons_zero, List.eraseIdx_cons_succ])) | (refine LI_cond_fH rfl (by simp) ?_; intro hg)
    refine W ?_
    refine RET fun h' HL => ?_
    try dsimp only [oneA]
    exact ⟨by first | rfl | trivial, HL.le⟩
  | cons z l =>
    rw [← hcc]
    have hz : c[(0 : Int).toNat]? = some z := by rw [hcc]; rfl
    have hlen : 0 < c.length := by rw [hcc]; simp
    refine e77 _ fun wf => ?_
    unfold c77
    refine LI_start wf ?_
    refine W ?_
    first | (refine LS_gyH rfl (decide_eq_false (by omega)) ?_; intro hg) | (refine LI_cond_tH rfl (decide_eq_false (by omega)) ?_; intro hg)
    refine W ?_
    refine LS_ix (fun h' HL => hR.le HL.le) enI1 hz (by omega) rfl rfl fun b o hrow => ?_
    try (dsimp only [st, setL, AV.cells, List.set_cons_zero, List.set_cons_succ, List.drop_zero, List.drop_succ_cons, List.take_zero, List.take_succ_cons, Nat.zero_add, Nat.add_zero, Nat.reduceAdd, List.cons_append, List.nil_append, List.eraseIdx_cons_zero, List.eraseIdx_cons_succ])
    refine W ?_
    by_cases hz1 : z = 1
    · first | (refine LS_gtnH rfl (by simp [hz1]) ?_; intro hg; try (dsimp only [st, setL, AV.cells, List.set_cons_zero, List.set_cons_succ, List.drop_zero, List.drop_succ_cons, List.take_zero, List.take_succ_cons, Nat.zero_add, Nat.add_zero, Nat.reduceAdd, List.cons_append, List.nil_append, List.eraseIdx_cons_zero, List.eraseIdx_cons_succ])) | (refine LS_gfnH rfl (by simp [hz1]) ?_; intro hg; try (dsimp only [st, setL, AV.cells, List.set_cons_zero, List.set_cons_succ, List.drop_zero, List.drop_succ_cons, List.take_zero, List.take_succ_cons, Nat.zero_add, Nat.add_zero, Nat.reduceAdd, List.cons_append, List.nil_append, List.eraseIdx_cons_zero, List.eraseIdx_cons_succ])) | (refine LI_cond_fH rfl (by simp [hz1]) ?_; intro hg)
      refine W ?_
      subst hz1
      have hh : decide (c.head? = some 1) = true := by rw [hcc]; rfl
      have hc1 : c.take 1 = [1] := by rw [hcc]; rfl
      rw [hh, Bool.true_and]
      refine LIL_ind (fun j a L => ∃ (i : Int), (∃ r : Nat → AV, a = [v, r 1, r 2, .i .i64 i, r 4, r 5, r 6, r 7, r 8, r 9, r 10, r 11, r 12, r 13, r 14, r 15, r 16, r 17, r 18, r 19, r 20, r 21, r 22, r 23, r 24, r 25, r 26, r 27, r 28, r 29, r 30, r 31, r 32, r 33]) ∧ L = [] ∧ 1 ≤ i ∧ i + j = c.length ∧ chainA [1] (c.drop 1) = chainA (c.take i.toNat) (c.drop i.toNat))
        (c.length - 1) ⟨1, exJ rfl, rfl, by omega, by omega, by rw [show (1 : Int).toNat = 1 from rfl, hc1]⟩ ?_
      rintro j a _ ⟨i, ⟨r, rfl⟩, rfl, h0, hj, heq⟩ IH
      refine W ?_
      (first | refine LS_gt rfl ?_ ?_ | refine LS_gf rfl ?_ ?_ | refine LI_cond rfl ?_ ?_) <;> intro hc <;> have hc' := hc <;> try simp only [decide_eq_true_eq, decide_eq_false_iff_not, Bool.not_eq_true', Bool.not_eq_false', Bool.not_eq_true, Bool.not_eq_false, beq_iff_eq, bne_iff_ne, beq_eq_false_iff_ne, bne_eq_false_iff_eq, Int.not_lt, Int.not_le, ge_iff_le, gt_iff_lt, not_and, ne_eq, Decidable.not_not] at hc'
      all_goals (try (dsimp only [st, setL, AV.cells, List.set_cons_zero, List.set_cons_succ, List.drop_zero, List.drop_succ_cons, List.take_zero, List.take_succ_cons, Nat.zero_add, Nat.add_zero, Nat.reduceAdd, List.cons_append, List.nil_append, List.eraseIdx_cons_zero, List.eraseIdx_cons_succ]))
      all_goals (refine W ?_)
      · obtain ⟨x, hx, hxm, hd⟩ := drop_at (l := c) (by omega) hc'
        obtain ⟨y, hy⟩ : ∃ y, c[(i - 1).toNat]? = some y := ⟨_, List.getElem?_eq_getElem (by omega)⟩
        have hxb := hb x hxm
        have hyb := hb y (List.mem_of_getElem? hy)
        have hly : lastD (c.take i.toNat) = y := by rw [show i.toNat = (i - 1).toNat + 1 by omega]; exact lastD_take hy
        rw [hd, chainA, ← take_snoc hx, stepB, hly] at heq
        refine dz77_0 ?_
        refine WX ?_
        refine W ?_
        refine LX_sz (ll := c) (fun h' HL => hR.le HL.le) enI1 (.inl ⟨rfl, rfl⟩) (.inr ⟨_, .i64, i, rfl, rfl, by omega, rfl⟩) (by omega) (by omega) rfl noG fun wz lwz swz hRz => ?_
        try (dsimp only [st, setL, AV.cells, List.set_cons_zero, List.set_cons_succ, List.drop_zero, List.drop_succ_cons, List.take_zero, List.take_succ_cons, Nat.zero_add, Nat.add_zero, Nat.reduceAdd, List.cons_append, List.nil_append, List.eraseIdx_cons_zero, List.eraseIdx_cons_succ])
        refine WX ?_
        refine W ?_
        refine LX_ix (fun h' HL => hR.le HL.le) enI1 hx (by omega) rfl rfl noG fun q1 o1 hrow1 => ?_
        try (dsimp only [st, setL, AV.cells, List.set_cons_zero, List.set_cons_succ, List.drop_zero, List.drop_succ_cons, List.take_zero, List.take_succ_cons, Nat.zero_add, Nat.add_zero, Nat.reduceAdd, List.cons_append, List.nil_append, List.eraseIdx_cons_zero, List.eraseIdx_cons_succ])
        refine WX ?_
        refine W ?_
        refine LX_ix (fun h' HL => hR.le HL.le) enI1 hy (by omega) rfl rfl noG fun q2 o2 hrow2 => ?_
        try (dsimp only [st, setL, AV.cells, List.set_cons_zero, List.set_cons_succ, List.drop_zero, List.drop_succ_cons, List.take_zero, List.take_succ_cons, Nat.zero_add, Nat.add_zero, Nat.reduceAdd, List.cons_append, List.nil_append, List.eraseIdx_cons_zero, List.eraseIdx_cons_succ])
        refine WX ?_
        refine W ?_
        refine LX_c0 (fun h' HL wf => l1Has_ac ((c.take i.toNat).drop 0) wz (x - y) h'.frz (hRz _ (hR.le HL.le)).frz (by simp; omega)) rfl rfl noG ?_
        try (dsimp only [st, setL, AV.cells, List.set_cons_zero, List.set_cons_succ, List.drop_zero, List.drop_succ_cons, List.take_zero, List.take_succ_cons, Nat.zero_add, Nat.add_zero, Nat.reduceAdd, List.cons_append, List.nil_append, List.eraseIdx_cons_zero, List.eraseIdx_cons_succ])
        refine WX ?_
        refine W ?_
        rw [List.drop_zero]
        (first | refine LS_gt rfl ?_ ?_ | refine LS_gf rfl ?_ ?_ | refine LI_cond rfl ?_ ?_) <;> intro hc <;> have hc' := hc <;> try simp only [decide_eq_true_eq, decide_eq_false_iff_not, Bool.not_eq_true', Bool.not_eq_false', Bool.not_eq_true, Bool.not_eq_false, beq_iff_eq, bne_iff_ne, beq_eq_false_iff_ne, bne_eq_false_iff_eq, Int.not_lt, Int.not_le, ge_iff_le, gt_iff_lt, not_and, ne_eq, Decidable.not_not] at hc'
        all_goals (try (dsimp only [st, setL, AV.cells, List.set_cons_zero, List.set_cons_succ, List.drop_zero, List.drop_succ_cons, List.take_zero, List.take_succ_cons, Nat.zero_add, Nat.add_zero, Nat.reduceAdd, List.cons_append, List.nil_append, List.eraseIdx_cons_zero, List.eraseIdx_cons_succ]))
        all_goals (refine W ?_)
        · rw [heq, nt hc, Bool.false_and]
          refine RET fun h' HL => ?_
          try dsimp only [oneA]
          exact ⟨rfl, HL.le⟩
        · refine IH (j - 1) _ _ (by omega) ⟨i + 1, exJ rfl, rfl, by omega, by omega, by rw [heq, nf hc, Bool.true_and, toNat_succ (by omega)]⟩
      · rw [heq, List.drop_eq_nil_of_le (by omega), chainA]
        refine RET fun h' HL => ?_
        try dsimp only [oneA]
        exact ⟨rfl, HL.le⟩
    · first | (refine LS_gyH rfl (by simp [hz1]) ?_; intro hg) | (refine LI_cond_tH rfl (by simp [hz1]) ?_; intro hg)
      refine W ?_
      have hh : decide (c.head? = some 1) = false := by rw [hcc]; simpa using hz1
      rw [hh, Bool.false_and]
      refine RET fun h' HL => ?_
      try dsimp only [oneA]
      exact ⟨rfl, HL.le⟩

theorem specIs_ac (c : List Int) (v : AV) (h : AH) (hR : Rd h v c) (hl : c.length ≤ 1048576) (hb : ∀ x ∈ c, -1099511627776 ≤ x ∧ x ≤ 1099511627776) :
    AC Try.prog 34 [v] h (fun r h' => r = .b (starC c) ∧ h.le h') := by
  have hln := hR.len
  refine e34 _ fun wf => ?_
  unfold c34
  refine LI_start wf ?_
  refine W ?_
  unfold starC
  cases h1 : decide ((c.length : Int) ≤ 41)
  · refine W ?_
    refine RET fun h' HL => ?_
    try dsimp only [oneA]
    exact ⟨rfl, HL.le⟩
  · refine W ?_
    refine LS_c0' (fun h' HL wf => l1All_ac c v 1 1000000 h' (hR.le HL.le) (by omega)) rfl rfl ?_
    try (dsimp only [st, setL, AV.cells, List.set_cons_zero, List.set_cons_succ, List.drop_zero, List.drop_succ_cons, List.take_zero, List.take_succ_cons, Nat.zero_add, Nat.add_zero, Nat.reduceAdd, List.cons_append, List.nil_append, List.eraseIdx_cons_zero, List.eraseIdx_cons_succ])
    refine W ?_
    cases h2 : c.all fun x => decide (1 ≤ x ∧ x ≤ 1000000)
    · refine W ?_
      refine RET fun h' HL => ?_
      try dsimp only [oneA]
      exact ⟨rfl, HL.le⟩
    · refine W ?_
      refine LS_c0 (fun h' HL wf => shChain_ac c v h' (hR.le HL.le) hl hb) rfl rfl ?_
      try (dsimp only [st, setL, AV.cells, List.set_cons_zero, List.set_cons_succ, List.drop_zero, List.drop_succ_cons, List.take_zero, List.take_succ_cons, Nat.zero_add, Nat.add_zero, Nat.reduceAdd, List.cons_append, List.nil_append, List.eraseIdx_cons_zero, List.eraseIdx_cons_succ])
      refine W ?_
      refine RET fun h' HL => ?_
      try dsimp only [oneA]
      exact ⟨rfl, HL.le⟩

theorem implIs_ac (c : List Int) (v : AV) (h : AH) (hR : Rd h v c) (hl : c.length ≤ 1048576) (hb : ∀ x ∈ c, -1099511627776 ≤ x ∧ x ≤ 1099511627776) :
    AC Try.prog 33 [v] h (fun r h' => r = .b (starC c) ∧ h.le h') := by
  have hln := hR.len
  rw [← impC_eq]
  unfold impC
  refine e33 _ fun wf => ?_
  unfold c33
  refine LI_start wf ?_
  refine W ?_
  refine LS_c0' (fun h' HL wf => in_ac _ 1 41 h') rfl rfl ?_
  try (dsimp only [st, setL, AV.cells, List.set_cons_zero, List.set_cons_succ, List.drop_zero, List.drop_succ_cons, List.take_zero, List.take_succ_cons, Nat.zero_add, Nat.add_zero, Nat.reduceAdd, List.cons_append, List.nil_append, List.eraseIdx_cons_zero, List.eraseIdx_cons_succ])
  refine W ?_
  by_cases hle : 1 ≤ (c.length : Int) ∧ (c.length : Int) ≤ 41
  · rw [decide_eq_true hle, Bool.true_and]
    first | (refine LS_gyH rfl (rfl) ?_; intro hg) | (refine LI_cond_tH rfl (rfl) ?_; intro hg)
    refine W ?_
    obtain ⟨z, hz⟩ : ∃ z, c[(0 : Int).toNat]? = some z := ⟨_, List.getElem?_eq_getElem (by omega)⟩
    have hh : c.head? = some z := by rw [List.head?_eq_getElem?]; exact hz
    refine LS_ix (fun h' HL => hR.le HL.le) enI1 hz (by omega) rfl rfl fun b o hrow => ?_
    try (dsimp only [st, setL, AV.cells, List.set_cons_zero, List.set_cons_succ, List.drop_zero, List.drop_succ_cons, List.take_zero, List.take_succ_cons, Nat.zero_add, Nat.add_zero, Nat.reduceAdd, List.cons_append, List.nil_append, List.eraseIdx_cons_zero, List.eraseIdx_cons_succ])
    refine W ?_
    by_cases hz1 : z = 1
    · first | (refine LS_gtnH rfl (by simp [hz1]) ?_; intro hg; try (dsimp only [st, setL, AV.cells, List.set_cons_zero, List.set_cons_succ, List.drop_zero, List.drop_succ_cons, List.take_zero, List.take_succ_cons, Nat.zero_add, Nat.add_zero, Nat.reduceAdd, List.cons_append, List.nil_append, List.eraseIdx_cons_zero, List.eraseIdx_cons_succ])) | (refine LS_gfnH rfl (by simp [hz1]) ?_; intro hg; try (dsimp only [st, setL, AV.cells, List.set_cons_zero, List.set_cons_succ, List.drop_zero, List.drop_succ_cons, List.take_zero, List.take_succ_cons, Nat.zero_add, Nat.add_zero, Nat.reduceAdd, List.cons_append, List.nil_append, List.eraseIdx_cons_zero, List.eraseIdx_cons_succ])) | (refine LI_cond_fH rfl (by simp [hz1]) ?_; intro hg)
      refine W ?_
      subst hz1
      have hc1 : c.take 1 = [1] := by
        have := take_snoc (l := c) (i := 0) hz
        simpa using this
      rw [hh, decide_eq_true rfl, Bool.true_and]
      refine LIL_ind (fun j a L => ∃ (i : Int), (∃ r : Nat → AV, a = [v, r 1, r 2, .i .i64 i, r 4, r 5, r 6, r 7, r 8, r 9, r 10, r 11, r 12, r 13, r 14, r 15, r 16, r 17, r 18, r 19, r 20, r 21, r 22, r 23, r 24, r 25, r 26, r 27, r 28, r 29, r 30, r 31, r 32, r 33, r 34, r 35, r 36, r 37, r 38, r 39, r 40, r 41, r 42, r 43, r 44, r 45, r 46, r 47, r 48, r 49, r 50, r 51, r 52, r 53]) ∧ L = [] ∧ 1 ≤ i ∧ i + j = c.length ∧ impG [1] (c.drop 1) = impG (c.take i.toNat) (c.drop i.toNat))
        (c.length - 1) ⟨1, exJ rfl, rfl, by omega, by omega, by rw [show (1 : Int).toNat = 1 from rfl, hc1]⟩ ?_
      rintro j a _ ⟨i, ⟨r, rfl⟩, rfl, h0, hj, heq⟩ IH
      refine W ?_
      (first | refine LS_gt rfl ?_ ?_ | refine LS_gf rfl ?_ ?_ | refine LI_cond rfl ?_ ?_) <;> intro hc <;> have hc' := hc <;> try simp only [decide_eq_true_eq, decide_eq_false_iff_not, Bool.not_eq_true', Bool.not_eq_false', Bool.not_eq_true, Bool.not_eq_false, beq_iff_eq, bne_iff_ne, beq_eq_false_iff_ne, bne_eq_false_iff_eq, Int.not_lt, Int.not_le, ge_iff_le, gt_iff_lt, not_and, ne_eq, Decidable.not_not] at hc'
      all_goals (try (dsimp only [st, setL, AV.cells, List.set_cons_zero, List.set_cons_succ, List.drop_zero, List.drop_succ_cons, List.take_zero, List.take_succ_cons, Nat.zero_add, Nat.add_zero, Nat.reduceAdd, List.cons_append, List.nil_append, List.eraseIdx_cons_zero, List.eraseIdx_cons_succ]))
      all_goals (refine W ?_)
      · obtain ⟨x, hx, hxm, hd⟩ := drop_at (l := c) (by omega) hc'
        obtain ⟨y, hy⟩ : ∃ y, c[(i - 1).toNat]? = some y := ⟨_, List.getElem?_eq_getElem (by omega)⟩
        have hxb := hb x hxm
        have hyb := hb y (List.mem_of_getElem? hy)
        have hly : lastD (c.take i.toNat) = y := by rw [show i.toNat = (i - 1).toNat + 1 by omega]; exact lastD_take hy
        rw [hd, impG, ← take_snoc hx, stepB, hly] at heq
        cases g1 : decide (x ≤ y)
        · cases g2 : decide (x > 1000000)
          · rw [g1, g2, Bool.not_false, Bool.true_and, Bool.true_and] at heq
            refine dz33_0 ?_
            refine WX ?_
            refine W ?_
            refine LX_ix (fun h' HL => hR.le HL.le) enI1 hx (by omega) rfl rfl noG fun q1 o1 hrow1 => ?_
            try (dsimp only [st, setL, AV.cells, List.set_cons_zero, List.set_cons_succ, List.drop_zero, List.drop_succ_cons, List.take_zero, List.take_succ_cons, Nat.zero_add, Nat.add_zero, Nat.reduceAdd, List.cons_append, List.nil_append, List.eraseIdx_cons_zero, List.eraseIdx_cons_succ])
            refine WX ?_
            refine W ?_
            refine LX_ix (fun h' HL => hR.le HL.le) enI1 hy (by omega) rfl rfl noG fun q2 o2 hrow2 => ?_
            try (dsimp only [st, setL, AV.cells, List.set_cons_zero, List.set_cons_succ, List.drop_zero, List.drop_succ_cons, List.take_zero, List.take_succ_cons, Nat.zero_add, Nat.add_zero, Nat.reduceAdd, List.cons_append, List.nil_append, List.eraseIdx_cons_zero, List.eraseIdx_cons_succ])
            refine WX ?_
            refine W ?_
            refine LX_ix (fun h' HL => hR.le HL.le) enI1 hx (by omega) rfl rfl (isG' rfl g1) fun q3 o3 hrow3 => ?_
            try (dsimp only [st, setL, AV.cells, List.set_cons_zero, List.set_cons_succ, List.drop_zero, List.drop_succ_cons, List.take_zero, List.take_succ_cons, Nat.zero_add, Nat.add_zero, Nat.reduceAdd, List.cons_append, List.nil_append, List.eraseIdx_cons_zero, List.eraseIdx_cons_succ])
            refine WX ?_
            refine W ?_
            refine LX_sz (ll := c) (fun h' HL => hR.le HL.le) enI1 (.inl ⟨rfl, rfl⟩) (.inr ⟨_, .i64, i, rfl, rfl, by omega, rfl⟩) (by omega) (by omega) rfl (isG' rfl g2) fun wz lwz swz hRz => ?_
            try (dsimp only [st, setL, AV.cells, List.set_cons_zero, List.set_cons_succ, List.drop_zero, List.drop_succ_cons, List.take_zero, List.take_succ_cons, Nat.zero_add, Nat.add_zero, Nat.reduceAdd, List.cons_append, List.nil_append, List.eraseIdx_cons_zero, List.eraseIdx_cons_succ])
            refine WX ?_
            refine W ?_
            refine LX_ix (fun h' HL => hR.le HL.le) enI1 hx (by omega) rfl rfl (isG' rfl g2) fun q4 o4 hrow4 => ?_
            try (dsimp only [st, setL, AV.cells, List.set_cons_zero, List.set_cons_succ, List.drop_zero, List.drop_succ_cons, List.take_zero, List.take_succ_cons, Nat.zero_add, Nat.add_zero, Nat.reduceAdd, List.cons_append, List.nil_append, List.eraseIdx_cons_zero, List.eraseIdx_cons_succ])
            refine WX ?_
            refine W ?_
            refine LX_ix (fun h' HL => hR.le HL.le) enI1 hy (by omega) rfl rfl (isG' rfl g2) fun q5 o5 hrow5 => ?_
            try (dsimp only [st, setL, AV.cells, List.set_cons_zero, List.set_cons_succ, List.drop_zero, List.drop_succ_cons, List.take_zero, List.take_succ_cons, Nat.zero_add, Nat.add_zero, Nat.reduceAdd, List.cons_append, List.nil_append, List.eraseIdx_cons_zero, List.eraseIdx_cons_succ])
            refine WX ?_
            refine W ?_
            refine LX_c0 (fun h' HL wf => Contains_ac ((c.take i.toNat).drop 0) wz (x - y) h'.frz (hRz _ (hR.le HL.le)).frz (by simp; omega)) rfl rfl (isG' rfl g2) ?_
            try (dsimp only [st, setL, AV.cells, List.set_cons_zero, List.set_cons_succ, List.drop_zero, List.drop_succ_cons, List.take_zero, List.take_succ_cons, Nat.zero_add, Nat.add_zero, Nat.reduceAdd, List.cons_append, List.nil_append, List.eraseIdx_cons_zero, List.eraseIdx_cons_succ])
            refine WX ?_
            refine W ?_
            rw [List.drop_zero]
            (first | refine LS_gt rfl ?_ ?_ | refine LS_gf rfl ?_ ?_ | refine LI_cond rfl ?_ ?_) <;> intro hc <;> have hc' := hc <;> try simp only [decide_eq_true_eq, decide_eq_false_iff_not, Bool.not_eq_true', Bool.not_eq_false', Bool.not_eq_true, Bool.not_eq_false, beq_iff_eq, bne_iff_ne, beq_eq_false_iff_ne, bne_eq_false_iff_eq, Int.not_lt, Int.not_le, ge_iff_le, gt_iff_lt, not_and, ne_eq, Decidable.not_not] at hc'
            all_goals (try (dsimp only [st, setL, AV.cells, List.set_cons_zero, List.set_cons_succ, List.drop_zero, List.drop_succ_cons, List.take_zero, List.take_succ_cons, Nat.zero_add, Nat.add_zero, Nat.reduceAdd, List.cons_append, List.nil_append, List.eraseIdx_cons_zero, List.eraseIdx_cons_succ]))
            all_goals (refine W ?_)
            · rw [heq, nt hc, Bool.false_and]
              refine RET fun h' HL => ?_
              try dsimp only [oneA]
              exact ⟨rfl, HL.le⟩
            · refine IH (j - 1) _ _ (by omega) ⟨i + 1, exJ rfl, rfl, by omega, by omega, by rw [heq, nf hc, Bool.true_and, toNat_succ (by omega)]⟩
          · rw [g1, g2, Bool.not_false, Bool.true_and, Bool.not_true, Bool.false_and, Bool.false_and] at heq
            rw [heq]
            refine dz33_0 ?_
            refine WX ?_
            refine W ?_
            refine LX_ix (fun h' HL => hR.le HL.le) enI1 hx (by omega) rfl rfl noG fun q1 o1 hrow1 => ?_
            try (dsimp only [st, setL, AV.cells, List.set_cons_zero, List.set_cons_succ, List.drop_zero, List.drop_succ_cons, List.take_zero, List.take_succ_cons, Nat.zero_add, Nat.add_zero, Nat.reduceAdd, List.cons_append, List.nil_append, List.eraseIdx_cons_zero, List.eraseIdx_cons_succ])
            refine WX ?_
            refine W ?_
            refine LX_ix (fun h' HL => hR.le HL.le) enI1 hy (by omega) rfl rfl noG fun q2 o2 hrow2 => ?_
            try (dsimp only [st, setL, AV.cells, List.set_cons_zero, List.set_cons_succ, List.drop_zero, List.drop_succ_cons, List.take_zero, List.take_succ_cons, Nat.zero_add, Nat.add_zero, Nat.reduceAdd, List.cons_append, List.nil_append, List.eraseIdx_cons_zero, List.eraseIdx_cons_succ])
            refine WX ?_
            refine W ?_
            refine LX_ix (fun h' HL => hR.le HL.le) enI1 hx (by omega) rfl rfl (isG' rfl g1) fun q3 o3 hrow3 => ?_
            try (dsimp only [st, setL, AV.cells, List.set_cons_zero, List.set_cons_succ, List.drop_zero, List.drop_succ_cons, List.take_zero, List.take_succ_cons, Nat.zero_add, Nat.add_zero, Nat.reduceAdd, List.cons_append, List.nil_append, List.eraseIdx_cons_zero, List.eraseIdx_cons_succ])
            refine WX ?_
            refine W ?_
            refine RET fun h' HL => ?_
            try dsimp only [oneA]
            exact ⟨rfl, HL.le⟩
        · rw [g1, Bool.not_true, Bool.false_and, Bool.false_and] at heq
          rw [heq]
          refine dz33_0 ?_
          refine WX ?_
          refine W ?_
          refine LX_ix (fun h' HL => hR.le HL.le) enI1 hx (by omega) rfl rfl noG fun q1 o1 hrow1 => ?_
          try (dsimp only [st, setL, AV.cells, List.set_cons_zero, List.set_cons_succ, List.drop_zero, List.drop_succ_cons, List.take_zero, List.take_succ_cons, Nat.zero_add, Nat.add_zero, Nat.reduceAdd, List.cons_append, List.nil_append, List.eraseIdx_cons_zero, List.eraseIdx_cons_succ])
          refine WX ?_
          refine W ?_
          refine LX_ix (fun h' HL => hR.le HL.le) enI1 hy (by omega) rfl rfl noG fun q2 o2 hrow2 => ?_
          try (dsimp only [st, setL, AV.cells, List.set_cons_zero, List.set_cons_succ, List.drop_zero, List.drop_succ_cons, List.take_zero, List.take_succ_cons, Nat.zero_add, Nat.add_zero, Nat.reduceAdd, List.cons_append, List.nil_append, List.eraseIdx_cons_zero, List.eraseIdx_cons_succ])
          refine WX ?_
          refine W ?_
          refine RET fun h' HL => ?_
          try dsimp only [oneA]
          exact ⟨rfl, HL.le⟩
      · rw [heq, List.drop_eq_nil_of_le (by omega), impG]
        refine RET fun h' HL => ?_
        try dsimp only [oneA]
        exact ⟨rfl, HL.le⟩
    · first | (refine LS_gyH rfl (by simp [hz1]) ?_; intro hg) | (refine LI_cond_tH rfl (by simp [hz1]) ?_; intro hg)
      refine W ?_
      rw [hh, decide_eq_false (show ¬ some z = some 1 by simpa using hz1), Bool.false_and]
      refine RET fun h' HL => ?_
      try dsimp only [oneA]
      exact ⟨rfl, HL.le⟩
  · rw [decide_eq_false hle, Bool.false_and]
    refine W ?_
    refine RET fun h' HL => ?_
    try dsimp only [oneA]
    exact ⟨rfl, HL.le⟩

theorem lastD_idx {c : List Int} {k : Nat} {n : Int} (hc : c.length = k + 1) (hl : lastD c = n) : c[k]? = some n := by
  have : k = c.length - 1 := by omega
  subst this
  rw [← List.getLast?_eq_getElem?, ← hl, lastD]
  cases c with
  | nil => simp at hc
  | cons x l => simp [List.getLastD, List.getLast?]

/-! ### Lists drawn; the law of checks -/
theorem rHas_ac (l : List Int) (v : AV) (x : Int) (h : AH) (hR : Rd h v l) (hl : l.length ≤ 4611686018427387904) : AC Try.prog 35 [v, .i .i64 x] h (fun r h' => r = .b (l.any fun y => y == x) ∧ h.le h') := by
  refine e35 _ _ fun wf => ?_
  unfold c35
  refine LI_start wf ?_
  refine W ?_
  refine LIL_ind (fun n a L => ∃ (i : Int), (∃ r : Nat → AV, a = [r 0, .i .i64 x, r 2, r 3, r 4, r 5, r 6, v, .i .i64 l.length, .i .i64 i, r 10, r 11, r 12, r 13, r 14, r 15, r 16]) ∧ L = [] ∧ 0 ≤ i ∧ i + n = l.length ∧ (l.any fun y => y == x) = ((l.drop i.toNat).any fun y => y == x))
    l.length ⟨0, exJ rfl, rfl, by omega, by omega, rfl⟩ ?_
  rintro n a L ⟨i, ⟨r, rfl⟩, rfl, h0, hn, heq⟩ IH
  refine W ?_
  (first | refine LS_gt rfl ?_ ?_ | refine LS_gf rfl ?_ ?_ | refine LI_cond rfl ?_ ?_) <;> intro hc <;> have hc' := hc <;> try simp only [decide_eq_true_eq, decide_eq_false_iff_not, Bool.not_eq_true', Bool.not_eq_false', Bool.not_eq_true, Bool.not_eq_false, beq_iff_eq, bne_iff_ne, beq_eq_false_iff_ne, bne_eq_false_iff_eq, Int.not_lt, Int.not_le, ge_iff_le, gt_iff_lt, not_and, ne_eq, Decidable.not_not] at hc'
  all_goals (try (dsimp only [st, setL, AV.cells, List.set_cons_zero, List.set_cons_succ, List.drop_zero, List.drop_succ_cons, List.take_zero, List.take_succ_cons, Nat.zero_add, Nat.add_zero, Nat.reduceAdd, List.cons_append, List.nil_append, List.eraseIdx_cons_zero, List.eraseIdx_cons_succ]))
  all_goals (refine W ?_)
  · obtain ⟨y, hy, hym, hd⟩ := drop_at h0 hc'
    rw [hd, List.any_cons] at heq
    refine LS_ix (fun h' HL => hR.le HL.le) enI1 hy h0 rfl rfl fun b o hrow => ?_
    try (dsimp only [st, setL, AV.cells, List.set_cons_zero, List.set_cons_succ, List.drop_zero, List.drop_succ_cons, List.take_zero, List.take_succ_cons, Nat.zero_add, Nat.add_zero, Nat.reduceAdd, List.cons_append, List.nil_append, List.eraseIdx_cons_zero, List.eraseIdx_cons_succ])
    refine W ?_
    (first | refine LS_gt rfl ?_ ?_ | refine LS_gf rfl ?_ ?_ | refine LI_cond rfl ?_ ?_) <;> intro hc <;> have hc' := hc <;> try simp only [decide_eq_true_eq, decide_eq_false_iff_not, Bool.not_eq_true', Bool.not_eq_false', Bool.not_eq_true, Bool.not_eq_false, beq_iff_eq, bne_iff_ne, beq_eq_false_iff_ne, bne_eq_false_iff_eq, Int.not_lt, Int.not_le, ge_iff_le, gt_iff_lt, not_and, ne_eq, Decidable.not_not] at hc'
    all_goals (try (dsimp only [st, setL, AV.cells, List.set_cons_zero, List.set_cons_succ, List.drop_zero, List.drop_succ_cons, List.take_zero, List.take_succ_cons, Nat.zero_add, Nat.add_zero, Nat.reduceAdd, List.cons_append, List.nil_append, List.eraseIdx_cons_zero, List.eraseIdx_cons_succ]))
    all_goals (refine W ?_)
    · rw [heq, hc]
      refine RET fun h' HL => ?_
      try dsimp only [oneA]
      exact ⟨rfl, HL.le⟩
    · refine IH (n - 1) _ _ (by omega) ⟨i + 1, exJ rfl, rfl, by omega, by omega, ?_⟩
      rw [heq, hc, Bool.false_or, toNat_succ h0]
  · rw [heq, List.drop_eq_nil_of_le (by omega)]
    refine RET fun h' HL => ?_
    try dsimp only [oneA]
    exact ⟨rfl, HL.le⟩

theorem sl_of_len {w : AV} {n : Nat} (h : lenA w = some n) (h0 : 0 < n) : ∃ b o c, w = .sl b o n c := by
  cases w <;> simp [lenA] at h
  · subst h; exact ⟨_, _, _, rfl⟩
  · omega

def chB (lo m : Int) (c : List Int) : Prop := ∀ x ∈ c, lo ≤ x ∧ x ≤ m

theorem chB.snoc {lo m m' : Int} {c : List Int} {x : Int} (h : chB lo m c) (hm : m ≤ m') (h0 : lo ≤ x) (h1 : x ≤ m') : chB lo m' (c ++ [x]) := by
  intro y hy
  rcases List.mem_append.1 hy with hy | hy
  · have := h y hy; omega
  · rw [List.mem_singleton.1 hy]; omega

theorem chB.mono {lo m lo' m' : Int} {c : List Int} (h : chB lo m c) (h0 : lo' ≤ lo) (h1 : m ≤ m') : chB lo' m' c := fun x hx => by have := h x hx; omega

theorem chB.get {lo m : Int} {c : List Int} (h : chB lo m c) (h0 : lo ≤ 0) (hm : 0 ≤ m) (i : Nat) : lo ≤ c.getD i 0 ∧ c.getD i 0 ≤ m := by
  by_cases hi : i < c.length
  · exact h _ (List.mem_of_getElem? (geti hi))
  · simp only [List.getD, List.getElem?_eq_none (Nat.not_lt.1 hi), Option.getD_none]; omega

theorem chB.set {lo m : Int} {c : List Int} {z : Int} (h : chB lo m c) (i : Nat) (h0 : lo ≤ z) (h1 : z ≤ m) : chB lo m (c.set i z) := fun x hx => by
  rcases List.mem_or_eq_of_mem_set hx with hx | rfl
  · exact h x hx
  · exact ⟨h0, h1⟩

theorem loq_el {h0 h : AH} {L : List It} {b o n : Nat} {cc : Bool} {c : List Int} {y : Int} (i j : Nat) (H : Loq h0 h L) (hi : L[i]? = some (.sl (.sl b o n cc) 1 (c.flatMap enI))) (hj : c[j]? = some y) : h.row b (o + j * 1) 1 = some (enI y) := by
  have hR := H.rdI i hi enI1 (by decide)
  have hrow := (hR.rowG rfl).2
  have hlt := (List.getElem?_eq_some_iff.1 hj).1
  have hn := hR.len
  simp only [lenA, Option.some.injEq] at hn
  subst hn
  rw [row_sub hrow (by omega), flatMap_get enI1 c j y hj]

theorem pow2_bd : ∀ k : Nat, k ≤ 16 → (2 : Int) ^ k ≤ 65536 ∧ (1 : Int) ≤ 2 ^ k := by decide

theorem DrawIsStarChain_ac (c1 : List Int) (v1 : AV) (h : AH) (hcv : RdG 1 enU h v1 c1) (hb : ∀ x ∈ c1, 0 ≤ x ∧ x ≤ 255) :
    AC Try.prog 32 [v1] h (fun r h' => ∃ M, (∃ c, lenA r = some c.length ∧ r.sc = true ∧ c.length ≤ 60 ∧ chB (-1) 2000000 c ∧ M = [.sl r 1 (c.flatMap enI)]) ∧ Loq h h' M) := by
  refine e32 _ fun wf => ?_
  unfold c32
  refine LI_start wf ?_
  refine W ?_
  refine LS_bxn rfl (sc_cons (rd_sc hcv) rfl) fun bc => ?_
  try (dsimp only [st, setL, AV.cells, List.set_cons_zero, List.set_cons_succ, List.drop_zero, List.drop_succ_cons, List.take_zero, List.take_succ_cons, Nat.zero_add, Nat.add_zero, Nat.reduceAdd, List.cons_append, List.nil_append, List.eraseIdx_cons_zero, List.eraseIdx_cons_succ])
  refine W ?_
  refine LS_lt [1] rfl rfl (by decide) rfl rfl rfl rfl enI1 rfl rfl fun w0 lw0 sw0 => ?_
  try (dsimp only [st, setL, AV.cells, List.set_cons_zero, List.set_cons_succ, List.drop_zero, List.drop_succ_cons, List.take_zero, List.take_succ_cons, Nat.zero_add, Nat.add_zero, Nat.reduceAdd, List.cons_append, List.nil_append, List.eraseIdx_cons_zero, List.eraseIdx_cons_succ])
  refine W ?_
  refine LS_lt [4, 8, 14] rfl rfl (by decide) rfl rfl rfl rfl enI1 rfl rfl fun w1 lw1 sw1 => ?_
  try (dsimp only [st, setL, AV.cells, List.set_cons_zero, List.set_cons_succ, List.drop_zero, List.drop_succ_cons, List.take_zero, List.take_succ_cons, Nat.zero_add, Nat.add_zero, Nat.reduceAdd, List.cons_append, List.nil_append, List.eraseIdx_cons_zero, List.eraseIdx_cons_succ])
  refine W ?_
  refine LS_rot 2 rfl ?_
  refine LS_cm (.refl _) (fun h' HL wf => among_ac [4, 8, 14] w1 _ _ _ _ _ _ h' _ HL (fun h' HL => HL.rdI 0 rfl enI1 (by decide)) (by decide) hcv hb (by omega) (by omega)) rfl rfl ?_
  rintro _ _ ⟨x, ct1, sd1, rfl, hx, hct1, rfl⟩
  try (dsimp only [st, setL, AV.cells, List.set_cons_zero, List.set_cons_succ, List.drop_zero, List.drop_succ_cons, List.take_zero, List.take_succ_cons, Nat.zero_add, Nat.add_zero, Nat.reduceAdd, List.cons_append, List.nil_append, List.eraseIdx_cons_zero, List.eraseIdx_cons_succ])
  refine W ?_
  have hx' : x = 4 ∨ x = 8 ∨ x = 14 := by simpa using hx
  refine LS_cm (.refl _) (fun h' HL wf => pick_ac x _ _ _ _ _ _ h' _ HL  hcv hb (by omega) (by omega)) rfl rfl ?_
  rintro _ _ ⟨n0, ct2, sd2, rfl, hn0, hct2, rfl⟩
  try (dsimp only [st, setL, AV.cells, List.set_cons_zero, List.set_cons_succ, List.drop_zero, List.drop_succ_cons, List.take_zero, List.take_succ_cons, Nat.zero_add, Nat.add_zero, Nat.reduceAdd, List.cons_append, List.nil_append, List.eraseIdx_cons_zero, List.eraseIdx_cons_succ])
  refine W ?_
  refine LIL_sub (L' := [.pt bc [v1, .i .i64 ct2, .i .u64 sd2], .sl w0 1 ([1].flatMap enI)]) (.cons_cons _ (.cons _ (.refl _))) ?_
  refine LIL_ind (fun j a L => ∃ (w : AV) (c : List Int) (m ct sd : Int), (∃ r : Nat → AV, a = [r 0, r 1, r 2, .p bc 0, w, .i .i64 m, r 6, r 7, r 8, r 9, r 10, r 11, r 12, r 13, r 14, r 15, r 16, r 17, r 18, r 19, r 20, r 21, r 22, r 23, r 24, r 25, r 26, r 27, r 28, r 29, r 30, r 31, r 32, r 33, r 34, r 35, r 36, r 37, r 38, r 39, r 40, r 41, r 42, r 43, r 44, r 45, r 46, r 47, r 48, r 49, r 50, r 51, r 52, r 53, r 54, r 55, r 56, r 57, r 58, r 59, r 60, r 61, r 62, r 63, r 64, r 65, r 66, r 67, r 68, r 69, r 70, r 71, r 72, r 73, r 74, r 75, r 76, r 77, r 78, r 79, r 80, r 81, r 82, r 83, r 84, r 85]) ∧ L = [.pt bc [v1, .i .i64 ct, .i .u64 sd], .sl w 1 (c.flatMap enI)] ∧ lenA w = some c.length ∧ w.sc = true ∧ 0 ≤ m ∧ m = j ∧ 1 ≤ c.length ∧ c.length + m ≤ 15 ∧ chB 0 (2 ^ c.length) c ∧ 0 ≤ ct ∧ ct + 4 * m ≤ 100)
    n0.toNat ⟨w0, [1], n0, ct2, sd2, exJ rfl, rfl, lw0, sw0, by omega, by omega, by simp, by simp; omega, by intro y hy; rw [List.mem_singleton.1 hy]; simp, by omega, by omega⟩ ?_
  rintro j a _ ⟨w, c, m, ct, sd, ⟨r, rfl⟩, rfl, lw, sw, hm0, hmj, hcl, hcm, hcb, hct0, hctm⟩ IH
  have hp := pow2_bd c.length (by omega)
  have hp2 := pow2_bd (c.length + 1) (by omega)
  have hps : (2 : Int) ^ (c.length + 1) = 2 * 2 ^ c.length := by rw [Int.pow_succ, Int.mul_comm]
  refine W ?_
  (first | refine LS_gt rfl ?_ ?_ | refine LS_gf rfl ?_ ?_ | refine LI_cond rfl ?_ ?_) <;> intro hc <;> have hc' := hc <;> try simp only [decide_eq_true_eq, decide_eq_false_iff_not, Bool.not_eq_true', Bool.not_eq_false', Bool.not_eq_true, Bool.not_eq_false, beq_iff_eq, bne_iff_ne, beq_eq_false_iff_ne, bne_eq_false_iff_eq, Int.not_lt, Int.not_le, ge_iff_le, gt_iff_lt, not_and, ne_eq, Decidable.not_not] at hc'
  all_goals (try (dsimp only [st, setL, AV.cells, List.set_cons_zero, List.set_cons_succ, List.drop_zero, List.drop_succ_cons, List.take_zero, List.take_succ_cons, Nat.zero_add, Nat.add_zero, Nat.reduceAdd, List.cons_append, List.nil_append, List.eraseIdx_cons_zero, List.eraseIdx_cons_succ]))
  all_goals (refine W ?_)
  · have hl1 := hcb.get (by omega) (by omega) (c.length - 1)
    refine LS_ix (y := c.getD (c.length - 1) 0) (fun h' HL => HL.rdI 1 rfl enI1 (by decide)) enI1 (by rw [show ((c.length : Int) - 1).toNat = c.length - 1 by omega]; exact geti (by omega)) (by omega) rfl rfl fun q1 o1 hrow1 => ?_
    try (dsimp only [st, setL, AV.cells, List.set_cons_zero, List.set_cons_succ, List.drop_zero, List.drop_succ_cons, List.take_zero, List.take_succ_cons, Nat.zero_add, Nat.add_zero, Nat.reduceAdd, List.cons_append, List.nil_append, List.eraseIdx_cons_zero, List.eraseIdx_cons_succ])
    refine W ?_
    refine LS_cm (.refl _) (fun h' HL wf => pick_ac c.length _ _ _ _ _ _ h' _ HL  hcv hb (by omega) (by omega)) rfl rfl ?_
    rintro _ _ ⟨k, ct3, sd3, rfl, hk, hct3, rfl⟩
    try (dsimp only [st, setL, AV.cells, List.set_cons_zero, List.set_cons_succ, List.drop_zero, List.drop_succ_cons, List.take_zero, List.take_succ_cons, Nat.zero_add, Nat.add_zero, Nat.reduceAdd, List.cons_append, List.nil_append, List.eraseIdx_cons_zero, List.eraseIdx_cons_succ])
    refine W ?_
    have hk1 := hcb.get (by omega) (by omega) k.toNat
    refine LS_ix (y := c.getD k.toNat 0) (fun h' HL => HL.rdI 1 rfl enI1 (by decide)) enI1 (geti (by omega)) (by omega) rfl rfl fun q2 o2 hrow2 => ?_
    try (dsimp only [st, setL, AV.cells, List.set_cons_zero, List.set_cons_succ, List.drop_zero, List.drop_succ_cons, List.take_zero, List.take_succ_cons, Nat.zero_add, Nat.add_zero, Nat.reduceAdd, List.cons_append, List.nil_append, List.eraseIdx_cons_zero, List.eraseIdx_cons_succ])
    refine W ?_
    refine LS_lt [c.getD (c.length - 1) 0 + c.getD k.toNat 0] rfl rfl (by decide) rfl rfl rfl rfl enI1 rfl rfl fun w2 lw2 sw2 => ?_
    try (dsimp only [st, setL, AV.cells, List.set_cons_zero, List.set_cons_succ, List.drop_zero, List.drop_succ_cons, List.take_zero, List.take_succ_cons, Nat.zero_add, Nat.add_zero, Nat.reduceAdd, List.cons_append, List.nil_append, List.eraseIdx_cons_zero, List.eraseIdx_cons_succ])
    refine W ?_
    refine LS_ap 2 rfl (fun h' HL => HL.rdI 0 rfl enI1 (by decide)) enI1 (by decide) (by simp) (by simp; omega) (by simp; omega) rfl rfl rfl fun w3 lw3 sw3 => ?_
    try (dsimp only [st, setL, AV.cells, List.set_cons_zero, List.set_cons_succ, List.drop_zero, List.drop_succ_cons, List.take_zero, List.take_succ_cons, Nat.zero_add, Nat.add_zero, Nat.reduceAdd, List.cons_append, List.nil_append, List.eraseIdx_cons_zero, List.eraseIdx_cons_succ])
    refine W ?_
    refine LIL_drop 1 ?_
    refine IH (j - 1) _ _ (by omega) ⟨w3, c ++ [c.getD (c.length - 1) 0 + c.getD k.toNat 0], m - 1, ct3, sd3, exJ rfl, rfl, lw3, sw3, by omega, by omega, by simp, by simp; omega, by rw [List.length_append, List.length_singleton]; exact hcb.snoc (by omega) (by omega) (by omega), by omega, by omega⟩
  · clear IH
    have hc1 : 0 < c.length := hcl
    have hcb2 : chB 0 (100000 + c.length) c := hcb.mono (by omega) (by omega)
    have hlast := hcb2.get (by omega) (by omega) (c.length - 1)
    have hlasti : c[((c.length : Int) - 1).toNat]? = some (c.getD (c.length - 1) 0) := by rw [show ((c.length : Int) - 1).toNat = c.length - 1 by omega]; exact geti (by omega)
    obtain ⟨bw, ow, cw, rfl⟩ := sl_of_len lw hc1
    refine LS_cm (.refl _) (fun h' HL wf => pick_ac 10 _ _ _ _ _ _ h' _ HL  hcv hb (by omega) (by omega)) rfl rfl ?_
    rintro _ _ ⟨k, ct4, sd4, rfl, hk, hct4, rfl⟩
    try (dsimp only [st, setL, AV.cells, List.set_cons_zero, List.set_cons_succ, List.drop_zero, List.drop_succ_cons, List.take_zero, List.take_succ_cons, Nat.zero_add, Nat.add_zero, Nat.reduceAdd, List.cons_append, List.nil_append, List.eraseIdx_cons_zero, List.eraseIdx_cons_succ])
    refine W ?_
    (first | refine LS_gt rfl ?_ ?_ | refine LS_gf rfl ?_ ?_ | refine LI_cond rfl ?_ ?_) <;> intro hc <;> have hc' := hc <;> try simp only [decide_eq_true_eq, decide_eq_false_iff_not, Bool.not_eq_true', Bool.not_eq_false', Bool.not_eq_true, Bool.not_eq_false, beq_iff_eq, bne_iff_ne, beq_eq_false_iff_ne, bne_eq_false_iff_eq, Int.not_lt, Int.not_le, ge_iff_le, gt_iff_lt, not_and, ne_eq, Decidable.not_not] at hc'
    all_goals (try (dsimp only [st, setL, AV.cells, List.set_cons_zero, List.set_cons_succ, List.drop_zero, List.drop_succ_cons, List.take_zero, List.take_succ_cons, Nat.zero_add, Nat.add_zero, Nat.reduceAdd, List.cons_append, List.nil_append, List.eraseIdx_cons_zero, List.eraseIdx_cons_succ]))
    all_goals (refine W ?_)
    · refine LS_cm (.refl _) (fun h' HL wf => pick_ac c.length _ _ _ _ _ _ h' _ HL  hcv hb (by omega) (by omega)) rfl rfl ?_
      rintro _ _ ⟨p, ct5, sd5, rfl, hp, hct5, rfl⟩
      try (dsimp only [st, setL, AV.cells, List.set_cons_zero, List.set_cons_succ, List.drop_zero, List.drop_succ_cons, List.take_zero, List.take_succ_cons, Nat.zero_add, Nat.add_zero, Nat.reduceAdd, List.cons_append, List.nil_append, List.eraseIdx_cons_zero, List.eraseIdx_cons_succ])
      refine W ?_
      refine LS_lt [0, 1, 2, 3, -1, 1000001] rfl rfl (by decide) rfl rfl rfl rfl enI1 rfl rfl fun w5 lw5 sw5 => ?_
      try (dsimp only [st, setL, AV.cells, List.set_cons_zero, List.set_cons_succ, List.drop_zero, List.drop_succ_cons, List.take_zero, List.take_succ_cons, Nat.zero_add, Nat.add_zero, Nat.reduceAdd, List.cons_append, List.nil_append, List.eraseIdx_cons_zero, List.eraseIdx_cons_succ])
      refine W ?_
      refine LS_rot 1 rfl ?_
      refine LS_cm (.refl _) (fun h' HL wf => among_ac [0, 1, 2, 3, -1, 1000001] w5 _ _ _ _ _ _ h' _ HL (fun h' HL => HL.rdI 0 rfl enI1 (by decide)) (by decide) hcv hb (by omega) (by omega)) rfl rfl ?_
      rintro _ _ ⟨z, ct6, sd6, rfl, hz, hct6, rfl⟩
      try (dsimp only [st, setL, AV.cells, List.set_cons_zero, List.set_cons_succ, List.drop_zero, List.drop_succ_cons, List.take_zero, List.take_succ_cons, Nat.zero_add, Nat.add_zero, Nat.reduceAdd, List.cons_append, List.nil_append, List.eraseIdx_cons_zero, List.eraseIdx_cons_succ])
      refine W ?_
      have hz' : z = 0 ∨ z = 1 ∨ z = 2 ∨ z = 3 ∨ z = -1 ∨ z = 1000001 := by simpa using hz
      refine LS_is (by omega) (by omega) rfl rfl ?_
      try (dsimp only [st, setL, AV.cells, List.set_cons_zero, List.set_cons_succ, List.drop_zero, List.drop_succ_cons, List.take_zero, List.take_succ_cons, Nat.zero_add, Nat.add_zero, Nat.reduceAdd, List.cons_append, List.nil_append, List.eraseIdx_cons_zero, List.eraseIdx_cons_succ])
      refine W ?_
      refine LS_ss z 2 p.toNat rfl (by omega) (by omega) rfl enI1 (by decide) rfl rfl rfl ?_
      try (dsimp only [st, setL, AV.cells, List.set_cons_zero, List.set_cons_succ, List.drop_zero, List.drop_succ_cons, List.take_zero, List.take_succ_cons, Nat.zero_add, Nat.add_zero, Nat.reduceAdd, List.cons_append, List.nil_append, List.eraseIdx_cons_zero, List.eraseIdx_cons_succ])
      refine W ?_
      refine RET fun h' HL => ?_
      try dsimp only [oneA]
      exact ⟨_, ⟨c.set p.toNat z, by simp [lenA], rfl, by simp; omega, (hcb2.mono (by omega) (by omega)).set _ (by omega) (by omega), rfl⟩, HL.sel [2] (by decide)⟩
    · (first | refine LS_gt rfl ?_ ?_ | refine LS_gf rfl ?_ ?_ | refine LI_cond rfl ?_ ?_) <;> intro hc <;> have hc' := hc <;> try simp only [decide_eq_true_eq, decide_eq_false_iff_not, Bool.not_eq_true', Bool.not_eq_false', Bool.not_eq_true, Bool.not_eq_false, beq_iff_eq, bne_iff_ne, beq_eq_false_iff_ne, bne_eq_false_iff_eq, Int.not_lt, Int.not_le, ge_iff_le, gt_iff_lt, not_and, ne_eq, Decidable.not_not] at hc'
      all_goals (try (dsimp only [st, setL, AV.cells, List.set_cons_zero, List.set_cons_succ, List.drop_zero, List.drop_succ_cons, List.take_zero, List.take_succ_cons, Nat.zero_add, Nat.add_zero, Nat.reduceAdd, List.cons_append, List.nil_append, List.eraseIdx_cons_zero, List.eraseIdx_cons_succ]))
      all_goals (refine W ?_)
      · refine de32_0 ?_
        refine WX ?_
        refine W ?_
        repeat' (first | (refine LX_two ?_ ?_ <;> refine WX ?_) | (refine LX_is (by omega) (by omega) rfl rfl noG ?_; try (dsimp only [st, setL, AV.cells, List.set_cons_zero, List.set_cons_succ, List.drop_zero, List.drop_succ_cons, List.take_zero, List.take_succ_cons, Nat.zero_add, Nat.add_zero, Nat.reduceAdd, List.cons_append, List.nil_append, List.eraseIdx_cons_zero, List.eraseIdx_cons_succ]); refine WX ?_) | (refine LX_lde noG rfl (fun h' HL => loadA_1 Tag.e (cell_row (loq_el 1 (((c.length : Int) - 1).toNat) HL rfl hlasti))) ?_; try (dsimp only [st, setL, AV.cells, List.set_cons_zero, List.set_cons_succ, List.drop_zero, List.drop_succ_cons, List.take_zero, List.take_succ_cons, Nat.zero_add, Nat.add_zero, Nat.reduceAdd, List.cons_append, List.nil_append, List.eraseIdx_cons_zero, List.eraseIdx_cons_succ]); refine WX ?_) | (refine LX_f noG (LO_cm (.refl _) (fun h' HL wf => pick_ac 9 _ _ _ _ _ _ h' _ HL  hcv hb (by omega) (by omega)) rfl rfl ?_); rintro _ _ ⟨p, ct5, sd5, rfl, hp, hct5, rfl⟩; try (dsimp only [st, setL, AV.cells, List.set_cons_zero, List.set_cons_succ, List.drop_zero, List.drop_succ_cons, List.take_zero, List.take_succ_cons, Nat.zero_add, Nat.add_zero, Nat.reduceAdd, List.cons_append, List.nil_append, List.eraseIdx_cons_zero, List.eraseIdx_cons_succ]); refine WX ?_) | (refine LX_f noG (LO_lt [c.getD (c.length - 1) 0 + p] rfl rfl (by decide) rfl rfl rfl rfl enI1 rfl rfl fun w6 lw6 sw6 => ?_); try (dsimp only [st, setL, AV.cells, List.set_cons_zero, List.set_cons_succ, List.drop_zero, List.drop_succ_cons, List.take_zero, List.take_succ_cons, Nat.zero_add, Nat.add_zero, Nat.reduceAdd, List.cons_append, List.nil_append, List.eraseIdx_cons_zero, List.eraseIdx_cons_succ]); refine WX ?_) | (refine LX_f noG (LO_ap 2 rfl (fun h' HL => HL.rdI 0 rfl enI1 (by decide)) enI1 (by decide) (by simp) (by simp; omega) (by simp; omega) rfl rfl rfl fun w7 lw7 sw7 => ?_); try (dsimp only [st, setL, AV.cells, List.set_cons_zero, List.set_cons_succ, List.drop_zero, List.drop_succ_cons, List.take_zero, List.take_succ_cons, Nat.zero_add, Nat.add_zero, Nat.reduceAdd, List.cons_append, List.nil_append, List.eraseIdx_cons_zero, List.eraseIdx_cons_succ]); refine WX ?_))
        all_goals
          refine W ?_
          refine RET fun h' HL => ?_
          try dsimp only [oneA]
          exact ⟨_, ⟨_, lw7, sw7, by simp; omega, (hcb2.snoc (m' := 2000000) (by omega) (by omega) (by omega)).mono (by omega) (by omega), rfl⟩, HL.sel [2] (by decide)⟩
      · (first | refine LS_gt rfl ?_ ?_ | refine LS_gf rfl ?_ ?_ | refine LI_cond rfl ?_ ?_) <;> intro hc <;> have hc' := hc <;> try simp only [decide_eq_true_eq, decide_eq_false_iff_not, Bool.not_eq_true', Bool.not_eq_false', Bool.not_eq_true, Bool.not_eq_false, beq_iff_eq, bne_iff_ne, beq_eq_false_iff_ne, bne_eq_false_iff_eq, Int.not_lt, Int.not_le, ge_iff_le, gt_iff_lt, not_and, ne_eq, Decidable.not_not] at hc'
        all_goals (try (dsimp only [st, setL, AV.cells, List.set_cons_zero, List.set_cons_succ, List.drop_zero, List.drop_succ_cons, List.take_zero, List.take_succ_cons, Nat.zero_add, Nat.add_zero, Nat.reduceAdd, List.cons_append, List.nil_append, List.eraseIdx_cons_zero, List.eraseIdx_cons_succ]))
        all_goals (refine W ?_)
        · refine LIL_ind (fun j a L => ∃ (w : AV) (c : List Int) (ct sd : Int), (∃ r : Nat → AV, a = [r 0, r 1, r 2, .p bc 0, w, r 5, r 6, r 7, r 8, r 9, r 10, r 11, r 12, r 13, r 14, r 15, r 16, r 17, r 18, r 19, r 20, r 21, r 22, r 23, r 24, r 25, r 26, r 27, r 28, r 29, r 30, r 31, r 32, r 33, r 34, r 35, r 36, r 37, r 38, r 39, r 40, r 41, r 42, r 43, r 44, r 45, r 46, r 47, r 48, r 49, r 50, r 51, r 52, r 53, r 54, r 55, r 56, r 57, r 58, r 59, r 60, r 61, r 62, r 63, r 64, r 65, r 66, r 67, r 68, r 69, r 70, r 71, r 72, r 73, r 74, r 75, r 76, r 77, r 78, r 79, r 80, r 81, r 82, r 83, r 84, r 85]) ∧ L = [.pt bc [v1, .i .i64 ct, .i .u64 sd], .sl w 1 (c.flatMap enI)] ∧ lenA w = some c.length ∧ w.sc = true ∧ 1 ≤ c.length ∧ c.length + j = 42 ∧ chB 0 (100000 + c.length) c ∧ 0 ≤ ct ∧ ct + 4 * j ≤ 600)
            (42 - c.length) ⟨_, c, ct4, sd4, exJ rfl, rfl, lw, rfl, by omega, by omega, hcb2, by omega, by omega⟩ ?_
          clear hlasti hlast hcb2 hcb hc1 lw
          rintro j2 a _ ⟨w, c, ct, sd, ⟨r, rfl⟩, rfl, lw, sw, hcl, hcm, hcb, hct0, hctm⟩ IH
          have hlast := hcb.get (by omega) (by omega) (c.length - 1)
          refine W ?_
          refine LS_cm (.refl _) (fun h' HL wf => pick_ac 2 _ _ _ _ _ _ h' _ HL  hcv hb (by omega) (by omega)) rfl rfl ?_
          rintro _ _ ⟨p, ct6, sd6, rfl, hp, hct6, rfl⟩
          try (dsimp only [st, setL, AV.cells, List.set_cons_zero, List.set_cons_succ, List.drop_zero, List.drop_succ_cons, List.take_zero, List.take_succ_cons, Nat.zero_add, Nat.add_zero, Nat.reduceAdd, List.cons_append, List.nil_append, List.eraseIdx_cons_zero, List.eraseIdx_cons_succ])
          refine W ?_
          (first | refine LS_gt rfl ?_ ?_ | refine LS_gf rfl ?_ ?_ | refine LI_cond rfl ?_ ?_) <;> intro hc <;> have hc' := hc <;> try simp only [decide_eq_true_eq, decide_eq_false_iff_not, Bool.not_eq_true', Bool.not_eq_false', Bool.not_eq_true, Bool.not_eq_false, beq_iff_eq, bne_iff_ne, beq_eq_false_iff_ne, bne_eq_false_iff_eq, Int.not_lt, Int.not_le, ge_iff_le, gt_iff_lt, not_and, ne_eq, Decidable.not_not] at hc'
          all_goals (try (dsimp only [st, setL, AV.cells, List.set_cons_zero, List.set_cons_succ, List.drop_zero, List.drop_succ_cons, List.take_zero, List.take_succ_cons, Nat.zero_add, Nat.add_zero, Nat.reduceAdd, List.cons_append, List.nil_append, List.eraseIdx_cons_zero, List.eraseIdx_cons_succ]))
          all_goals (refine W ?_)
          · refine LS_ix (y := c.getD (c.length - 1) 0) (fun h' HL => HL.rdI 1 rfl enI1 (by decide)) enI1 (by rw [show ((c.length : Int) - 1).toNat = c.length - 1 by omega]; exact geti (by omega)) (by omega) rfl rfl fun q1 o1 hrow1 => ?_
            try (dsimp only [st, setL, AV.cells, List.set_cons_zero, List.set_cons_succ, List.drop_zero, List.drop_succ_cons, List.take_zero, List.take_succ_cons, Nat.zero_add, Nat.add_zero, Nat.reduceAdd, List.cons_append, List.nil_append, List.eraseIdx_cons_zero, List.eraseIdx_cons_succ])
            refine W ?_
            refine LS_lt [c.getD (c.length - 1) 0 + 1] rfl rfl (by decide) rfl rfl rfl rfl enI1 rfl rfl fun w8 lw8 sw8 => ?_
            try (dsimp only [st, setL, AV.cells, List.set_cons_zero, List.set_cons_succ, List.drop_zero, List.drop_succ_cons, List.take_zero, List.take_succ_cons, Nat.zero_add, Nat.add_zero, Nat.reduceAdd, List.cons_append, List.nil_append, List.eraseIdx_cons_zero, List.eraseIdx_cons_succ])
            refine W ?_
            refine LS_ap 2 rfl (fun h' HL => HL.rdI 0 rfl enI1 (by decide)) enI1 (by decide) (by simp) (by simp; omega) (by simp; omega) rfl rfl rfl fun w9 lw9 sw9 => ?_
            try (dsimp only [st, setL, AV.cells, List.set_cons_zero, List.set_cons_succ, List.drop_zero, List.drop_succ_cons, List.take_zero, List.take_succ_cons, Nat.zero_add, Nat.add_zero, Nat.reduceAdd, List.cons_append, List.nil_append, List.eraseIdx_cons_zero, List.eraseIdx_cons_succ])
            refine W ?_
            refine LIL_drop 1 ?_
            refine IH (j2 - 1) _ _ (by omega) ⟨w9, _, ct6, sd6, exJ rfl, rfl, lw9, sw9, by simp, by simp; omega, hcb.snoc (by rw [List.length_append, List.length_singleton]; omega) (by omega) (by rw [List.length_append, List.length_singleton]; omega), by omega, by omega⟩
          · refine RET fun h' HL => ?_
            try dsimp only [oneA]
            exact ⟨_, ⟨_, lw, sw, by omega, hcb.mono (by omega) (by omega), rfl⟩, HL.sel [1] (by decide)⟩
        · (first | refine LS_gt rfl ?_ ?_ | refine LS_gf rfl ?_ ?_ | refine LI_cond rfl ?_ ?_) <;> intro hc <;> have hc' := hc <;> try simp only [decide_eq_true_eq, decide_eq_false_iff_not, Bool.not_eq_true', Bool.not_eq_false', Bool.not_eq_true, Bool.not_eq_false, beq_iff_eq, bne_iff_ne, beq_eq_false_iff_ne, bne_eq_false_iff_eq, Int.not_lt, Int.not_le, ge_iff_le, gt_iff_lt, not_and, ne_eq, Decidable.not_not] at hc'
          all_goals (try (dsimp only [st, setL, AV.cells, List.set_cons_zero, List.set_cons_succ, List.drop_zero, List.drop_succ_cons, List.take_zero, List.take_succ_cons, Nat.zero_add, Nat.add_zero, Nat.reduceAdd, List.cons_append, List.nil_append, List.eraseIdx_cons_zero, List.eraseIdx_cons_succ]))
          all_goals (refine W ?_)
          · refine RET fun h' HL => ?_
            try dsimp only [oneA]
            exact ⟨_, ⟨[], rfl, rfl, by simp, (by intro x hx; cases hx), rfl⟩, loq_ns (HL.sub (List.nil_sublist _)) 1⟩
          · refine RET fun h' HL => ?_
            try dsimp only [oneA]
            exact ⟨_, ⟨c, lw, rfl, by omega, hcb2.mono (by omega) (by omega), rfl⟩, HL.sel [1] (by decide)⟩

theorem chain_last {c : List Int} (h : starC c = true) : ∃ k, c.length = k + 1 ∧ c[k]? = some (lastD c) ∧ c ∈ allS (lastD c) k [1] := by
  simp only [starC, Bool.and_eq_true, decide_eq_true_eq] at h
  obtain ⟨_, _, h3, h4⟩ := h
  cases c with
  | nil => simp at h3
  | cons x t =>
    rw [List.head?_cons] at h3
    cases h3
    rw [List.drop_one, List.tail_cons, chainA_B] at h4
    exact ⟨t.length, rfl, lastD_idx rfl rfl, allS_mem t [1] h4 rfl⟩

theorem chainA_drop : ∀ (l pre : List Int) (i : Nat) (x : Int), chainA pre l = true → l[i]? = some x → stepB (pre ++ l.take i) x = true
  | [], _, _, _, _, h => by simp at h
  | y :: l, pre, 0, x, hc, h => by
    simp at h
    subst h
    rw [chainA, Bool.and_eq_true] at hc
    rw [List.take_zero, List.append_nil]
    exact hc.1
  | y :: l, pre, i + 1, x, hc, h => by
    rw [chainA, Bool.and_eq_true] at hc
    have := chainA_drop l (pre ++ [y]) i x hc.2 (by simpa using h)
    rw [List.take_succ_cons]
    simpa using this

theorem lawFnStarChecks_ac (c1 : List Int) (v1 : AV) (c2 : List Int) (v2 : AV) (h : AH) (hR1 : RdG 1 enU h v1 c1) (w1 : ∀ n ∈ c1, (Lit.int .u8 n).wf = true) (m1 : c1.length ≤ maxLen) (hR2 : RdG 1 enU h v2 c2) (w2 : ∀ n ∈ c2, (Lit.int .u8 n).wf = true) (m2 : c2.length ≤ maxLen) :
    AC Try.prog 8 [v1, v2] h (fun r h' => r = .b true) := by
  have b1 := bytes_in w1
  have q1 : c1.length ≤ 9223372036854775807 := m1
  have q2 : c2.length ≤ 9223372036854775807 := m2
  refine e8 _ _ fun wf => ?_
  unfold c8
  refine LI_start wf ?_
  refine W ?_
  refine LS_c0 (fun h' HL wf => big_ac c1 c2 v1 v2 h' (hR1.le HL.le) (hR2.le HL.le) q1 q2) rfl rfl ?_
  try (dsimp only [st, setL, AV.cells, List.set_cons_zero, List.set_cons_succ, List.drop_zero, List.drop_succ_cons, List.take_zero, List.take_succ_cons, Nat.zero_add, Nat.add_zero, Nat.reduceAdd, List.cons_append, List.nil_append, List.eraseIdx_cons_zero, List.eraseIdx_cons_succ])
  refine W ?_
  (first | refine LS_gt rfl ?_ ?_ | refine LS_gf rfl ?_ ?_ | refine LI_cond rfl ?_ ?_) <;> intro hc <;> have hc' := hc <;> try simp only [decide_eq_true_eq, decide_eq_false_iff_not, Bool.not_eq_true', Bool.not_eq_false', Bool.not_eq_true, Bool.not_eq_false, beq_iff_eq, bne_iff_ne, beq_eq_false_iff_ne, bne_eq_false_iff_eq, Int.not_lt, Int.not_le, ge_iff_le, gt_iff_lt, not_and, ne_eq, Decidable.not_not] at hc'
  all_goals (try (dsimp only [st, setL, AV.cells, List.set_cons_zero, List.set_cons_succ, List.drop_zero, List.drop_succ_cons, List.take_zero, List.take_succ_cons, Nat.zero_add, Nat.add_zero, Nat.reduceAdd, List.cons_append, List.nil_append, List.eraseIdx_cons_zero, List.eraseIdx_cons_succ]))
  all_goals (refine W ?_)
  · refine RET fun h' HL => ?_
    try dsimp only [oneA]
  · refine LS_c1 (fun h' HL wf => DrawIsStarChain_ac c1 v1 h' (hR1.le HL.le) b1) rfl rfl ?_
    try (dsimp only [st, setL, AV.cells, List.set_cons_zero, List.set_cons_succ, List.drop_zero, List.drop_succ_cons, List.take_zero, List.take_succ_cons, Nat.zero_add, Nat.add_zero, Nat.reduceAdd, List.cons_append, List.nil_append, List.eraseIdx_cons_zero, List.eraseIdx_cons_succ])
    refine W ?_
    rintro w _ ⟨c, lw, sw, hcl, hcb, rfl⟩
    try (dsimp only [st, setL, AV.cells, List.set_cons_zero, List.set_cons_succ, List.drop_zero, List.drop_succ_cons, List.take_zero, List.take_succ_cons, Nat.zero_add, Nat.add_zero, Nat.reduceAdd, List.cons_append, List.nil_append, List.eraseIdx_cons_zero, List.eraseIdx_cons_succ])
    refine W ?_
    refine LS_c0 (fun h' HL wf => implIs_ac c w h' (HL.rdI 0 rfl enI1 (by decide)) (by omega) (fun x hx => by have := hcb x hx; omega)) rfl rfl ?_
    try (dsimp only [st, setL, AV.cells, List.set_cons_zero, List.set_cons_succ, List.drop_zero, List.drop_succ_cons, List.take_zero, List.take_succ_cons, Nat.zero_add, Nat.add_zero, Nat.reduceAdd, List.cons_append, List.nil_append, List.eraseIdx_cons_zero, List.eraseIdx_cons_succ])
    refine W ?_
    refine LS_c0 (fun h' HL wf => specIs_ac c w h' (HL.rdI 0 rfl enI1 (by decide)) (by omega) (fun x hx => by have := hcb x hx; omega)) rfl rfl ?_
    try (dsimp only [st, setL, AV.cells, List.set_cons_zero, List.set_cons_succ, List.drop_zero, List.drop_succ_cons, List.take_zero, List.take_succ_cons, Nat.zero_add, Nat.add_zero, Nat.reduceAdd, List.cons_append, List.nil_append, List.eraseIdx_cons_zero, List.eraseIdx_cons_succ])
    refine W ?_
    first | (refine LS_gtnH rfl (by simp) ?_; intro hg; try (dsimp only [st, setL, AV.cells, List.set_cons_zero, List.set_cons_succ, List.drop_zero, List.drop_succ_cons, List.take_zero, List.take_succ_cons, Nat.zero_add, Nat.add_zero, Nat.reduceAdd, List.cons_append, List.nil_append, List.eraseIdx_cons_zero, List.eraseIdx_cons_succ])) | (refine LS_gfnH rfl (by simp) ?_; intro hg; try (dsimp only [st, setL, AV.cells, List.set_cons_zero, List.set_cons_succ, List.drop_zero, List.drop_succ_cons, List.take_zero, List.take_succ_cons, Nat.zero_add, Nat.add_zero, Nat.reduceAdd, List.cons_append, List.nil_append, List.eraseIdx_cons_zero, List.eraseIdx_cons_succ])) | (refine LI_cond_fH rfl (by simp) ?_; intro hg)
    refine W ?_
    cases hst : starC c
    · refine W ?_
      refine RET fun h' HL => ?_
      try dsimp only [oneA]
    · obtain ⟨k, hk1, hk2, hk3⟩ := chain_last hst
      have hch : ∀ (i : Nat) (x : Int), 1 ≤ i → c[i]? = some x → stepB (c.take i) x = true := by
        intro i x hi hx
        have hst2 := hst
        simp only [starC, Bool.and_eq_true, decide_eq_true_eq] at hst2
        have h4 := hst2.2.2.2
        have h3 := hst2.2.2.1
        have e : c.take i = [1] ++ (c.drop 1).take (i - 1) := by
          cases c with
          | nil => simp at h3
          | cons y t =>
            rw [List.head?_cons] at h3
            cases h3
            rw [show i = (i - 1) + 1 by omega, List.take_succ_cons]
            simp
        rw [e]
        exact chainA_drop _ _ _ _ h4 (by rw [List.getElem?_drop, show 1 + (i - 1) = i by omega]; exact hx)
      refine W ?_
      refine LIL_ind (fun j a L => ∃ (i : Int), (∃ r : Nat → AV, a = [r 0, r 1, r 2, r 3, r 4, w, r 6, .i .i64 i, r 8, r 9, r 10, r 11, r 12, r 13, r 14, r 15, r 16, r 17, r 18, r 19, r 20, r 21, r 22, r 23, r 24, r 25, r 26, r 27, r 28, r 29, r 30, r 31, r 32, r 33, r 34, r 35, r 36, r 37, r 38, r 39, r 40, r 41, r 42, r 43, r 44, r 45, r 46, r 47, r 48, r 49, r 50, r 51, r 52, r 53, r 54, r 55, r 56, r 57, r 58, r 59, r 60, r 61]) ∧ L = [.sl w 1 (c.flatMap enI)] ∧ 1 ≤ i ∧ i + j = c.length)
        (c.length - 1) ⟨1, exJ rfl, rfl, by omega, by omega⟩ ?_
      rintro j a _ ⟨i, ⟨r, rfl⟩, rfl, h0, hj⟩ IH
      refine W ?_
      (first | refine LS_gt rfl ?_ ?_ | refine LS_gf rfl ?_ ?_ | refine LI_cond rfl ?_ ?_) <;> intro hc <;> have hc' := hc <;> try simp only [decide_eq_true_eq, decide_eq_false_iff_not, Bool.not_eq_true', Bool.not_eq_false', Bool.not_eq_true, Bool.not_eq_false, beq_iff_eq, bne_iff_ne, beq_eq_false_iff_ne, bne_eq_false_iff_eq, Int.not_lt, Int.not_le, ge_iff_le, gt_iff_lt, not_and, ne_eq, Decidable.not_not] at hc'
      all_goals (try (dsimp only [st, setL, AV.cells, List.set_cons_zero, List.set_cons_succ, List.drop_zero, List.drop_succ_cons, List.take_zero, List.take_succ_cons, Nat.zero_add, Nat.add_zero, Nat.reduceAdd, List.cons_append, List.nil_append, List.eraseIdx_cons_zero, List.eraseIdx_cons_succ]))
      all_goals (refine W ?_)
      · obtain ⟨x, hx, hxm, _⟩ := drop_at (l := c) (by omega) hc'
        obtain ⟨y, hy⟩ : ∃ y, c[(i - 1).toNat]? = some y := ⟨_, List.getElem?_eq_getElem (by omega)⟩
        have hxb := hcb x hxm
        have hyb := hcb y (List.mem_of_getElem? hy)
        have hly : lastD (c.take i.toNat) = y := by rw [show i.toNat = (i - 1).toNat + 1 by omega]; exact lastD_take hy
        have hsb := hch i.toNat x (by omega) hx
        rw [stepB, hly] at hsb
        refine dz8_0 ?_
        refine WX ?_
        refine W ?_
        refine LX_sz (ll := c) (fun h' HL => HL.rdI 0 rfl enI1 (by decide)) enI1 (.inl ⟨rfl, rfl⟩) (.inr ⟨_, .i64, i, rfl, rfl, by omega, rfl⟩) (by omega) (by omega) rfl noG fun wz lwz swz hRz => ?_
        try (dsimp only [st, setL, AV.cells, List.set_cons_zero, List.set_cons_succ, List.drop_zero, List.drop_succ_cons, List.take_zero, List.take_succ_cons, Nat.zero_add, Nat.add_zero, Nat.reduceAdd, List.cons_append, List.nil_append, List.eraseIdx_cons_zero, List.eraseIdx_cons_succ])
        refine WX ?_
        refine W ?_
        refine LX_ix (fun h' HL => HL.rdI 0 rfl enI1 (by decide)) enI1 hx (by omega) rfl rfl noG fun q1 o1 hrow1 => ?_
        try (dsimp only [st, setL, AV.cells, List.set_cons_zero, List.set_cons_succ, List.drop_zero, List.drop_succ_cons, List.take_zero, List.take_succ_cons, Nat.zero_add, Nat.add_zero, Nat.reduceAdd, List.cons_append, List.nil_append, List.eraseIdx_cons_zero, List.eraseIdx_cons_succ])
        refine WX ?_
        refine W ?_
        refine LX_ix (fun h' HL => HL.rdI 0 rfl enI1 (by decide)) enI1 hy (by omega) rfl rfl noG fun q2 o2 hrow2 => ?_
        try (dsimp only [st, setL, AV.cells, List.set_cons_zero, List.set_cons_succ, List.drop_zero, List.drop_succ_cons, List.take_zero, List.take_succ_cons, Nat.zero_add, Nat.add_zero, Nat.reduceAdd, List.cons_append, List.nil_append, List.eraseIdx_cons_zero, List.eraseIdx_cons_succ])
        refine WX ?_
        refine W ?_
        refine LX_c0 (fun h' HL wf => by have H := rHas_ac ((c.take i.toNat).drop 0) wz (x - y) h'.frz (hRz _ (HL.rdI 0 rfl enI1 (by decide))).frz (by simp; omega); rw [List.drop_zero, hsb] at H; exact H) rfl rfl noG ?_
        try (dsimp only [st, setL, AV.cells, List.set_cons_zero, List.set_cons_succ, List.drop_zero, List.drop_succ_cons, List.take_zero, List.take_succ_cons, Nat.zero_add, Nat.add_zero, Nat.reduceAdd, List.cons_append, List.nil_append, List.eraseIdx_cons_zero, List.eraseIdx_cons_succ])
        refine WX ?_
        refine W ?_
        refine IH (j - 1) _ _ (by omega) ⟨i + 1, exJ rfl, rfl, by omega, by omega⟩
      · refine LS_ix (y := lastD c) (fun h' HL => HL.rdI 0 rfl enI1 (by decide)) enI1 (by rw [show ((c.length : Int) - 1).toNat = k by omega]; exact hk2) (by omega) rfl rfl fun q1 o1 hrow1 => ?_
        try (dsimp only [st, setL, AV.cells, List.set_cons_zero, List.set_cons_succ, List.drop_zero, List.drop_succ_cons, List.take_zero, List.take_succ_cons, Nat.zero_add, Nat.add_zero, Nat.reduceAdd, List.cons_append, List.nil_append, List.eraseIdx_cons_zero, List.eraseIdx_cons_succ])
        refine W ?_
        refine LS_c0 (fun h' HL wf => starLen_ac (lastD c) h') rfl rfl ?_
        try (dsimp only [st, setL, AV.cells, List.set_cons_zero, List.set_cons_succ, List.drop_zero, List.drop_succ_cons, List.take_zero, List.take_succ_cons, Nat.zero_add, Nat.add_zero, Nat.reduceAdd, List.cons_append, List.nil_append, List.eraseIdx_cons_zero, List.eraseIdx_cons_succ])
        refine W ?_
        cases hso : shOk (lastD c)
        · refine W ?_
          refine RET fun h' HL => ?_
          try dsimp only [oneA]
        · have hnn : 1 ≤ lastD c ∧ lastD c ≤ 100 := by simpa [shOk] using hso
          have hlow := shK_low hnn.1 hnn.2 (j := k) (hasS_iff.2 (fun e => by rw [e] at hk3; cases hk3))
          rw [if_pos rfl]
          refine W ?_
          refine RET fun h' HL => ?_
          try dsimp only [oneA]
          simp; omega
end Go.Proofs.Ytlgjakoeogpjlaa
