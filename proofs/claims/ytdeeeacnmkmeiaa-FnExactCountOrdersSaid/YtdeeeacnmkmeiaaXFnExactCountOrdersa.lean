/- The walk of the law FnExactCountOrders, part 1: what each function that it reaches computes. -/
import Derived.Test.YtdeeeacnmkmeiaaCFnExactCountOrders
namespace Go.Proofs.Ytdeeeacnmkmeiaa
open Go.AL
set_option linter.unusedVariables false
set_option linter.unusedSimpArgs false
set_option maxRecDepth 100000
set_option maxHeartbeats 1000000
attribute [local irreducible] AS AI AIL OpR AC CW AWP ALoop LS LI LIL LThen LLoop LBlk LRet Lh AX OpV OpF

theorem nf {b : Bool} (h : (!b) = false) : b = true := by cases b <;> simp_all

theorem nt {b : Bool} (h : (!b) = true) : b = false := by cases b <;> simp_all

theorem in_ac (n lo hi : Int) (h : AH) : AC Try.prog 57 [.i .i64 n, .i .i64 lo, .i .i64 hi] h (fun v h' => v = .b (decide (lo ≤ n ∧ n ≤ hi)) ∧ h = h') := by
  refine e57 _ _ _ fun wf => ?_
  unfold c57
  repeat (first | refine AI_seqk fun K hK => ?_ | refine AI_reg ?_ | ((first | refine wmv rfl ?_ | refine wag rfl ?_ | refine war _ rfl rfl rfl (by omega) (by omega) ?_ | refine wbn rfl rfl rfl ?_ | refine wnt rfl ?_ | refine wex rfl rfl ?_ | refine wpt rfl (by first | assumption | with_reducible rfl) rfl ?_ | refine wpf rfl (by first | assumption | with_reducible rfl) rfl ?_ | refine wpb rfl rfl rfl ?_ | refine wmf rfl ?_ | refine wnc rfl ?_ | refine wbq Try.underlying4 rfl rfl _ (.inr ⟨rfl, rfl⟩) ?_ | refine wbq Try.underlying4 rfl rfl _ (.inl ⟨rfl, rfl⟩) ?_); try dsimp only [st, List.set_cons_zero, List.set_cons_succ]) | ((first | refine AS_nil ?_ | refine AI_skip ?_ | refine AI_exit ?_); try simp only [AThen, ABlk, reduceIte, reduceCtorEq]) | ((first | refine hK _ _ ?_ | ((first | clear hK K | clear IH hK K); refine hK _ _ ?_) | ((first | clear hK K | clear IH hK K); (first | clear hK K | clear IH hK K); refine hK _ _ ?_) | ((first | clear hK K | clear IH hK K); (first | clear hK K | clear IH hK K); (first | clear hK K | clear IH hK K); refine hK _ _ ?_)); try (first | clear hK K | clear IH hK K)) | refine AI_cond_t rfl (by first | assumption | with_reducible rfl) ?_ | refine AI_cond_f rfl (by first | assumption | with_reducible rfl) ?_ | refine AS_gy rfl (by first | assumption | with_reducible rfl) ?_ | refine AS_gtn rfl (by first | assumption | with_reducible rfl) ?_ | refine AS_gfn rfl (by first | assumption | with_reducible rfl) ?_ | refine AI_block (AI_loop ?_) | refine AI_block ?_ | refine AI_ret ⟨_, rfl, ?_⟩)
  (first | refine AS_gt rfl ?_ ?_ | refine AS_gf rfl ?_ ?_ | refine AI_cond rfl ?_ ?_) <;> intro hc <;> have hc' := hc <;> try simp only [decide_eq_true_eq, decide_eq_false_iff_not, Bool.not_eq_true', Bool.not_eq_false', Bool.not_eq_true, Bool.not_eq_false, beq_iff_eq, bne_iff_ne, beq_eq_false_iff_ne, bne_eq_false_iff_eq, Int.not_lt, Int.not_le, ge_iff_le, gt_iff_lt, not_and, ne_eq, Decidable.not_not] at hc'
  all_goals
    repeat (first | refine AI_seqk fun K hK => ?_ | refine AI_reg ?_ | ((first | refine wmv rfl ?_ | refine wag rfl ?_ | refine war _ rfl rfl rfl (by omega) (by omega) ?_ | refine wbn rfl rfl rfl ?_ | refine wnt rfl ?_ | refine wex rfl rfl ?_ | refine wpt rfl (by first | assumption | with_reducible rfl) rfl ?_ | refine wpf rfl (by first | assumption | with_reducible rfl) rfl ?_ | refine wpb rfl rfl rfl ?_ | refine wmf rfl ?_ | refine wnc rfl ?_ | refine wbq Try.underlying4 rfl rfl _ (.inr ⟨rfl, rfl⟩) ?_ | refine wbq Try.underlying4 rfl rfl _ (.inl ⟨rfl, rfl⟩) ?_); try dsimp only [st, List.set_cons_zero, List.set_cons_succ]) | ((first | refine AS_nil ?_ | refine AI_skip ?_ | refine AI_exit ?_); try simp only [AThen, ABlk, reduceIte, reduceCtorEq]) | ((first | refine hK _ _ ?_ | ((first | clear hK K | clear IH hK K); refine hK _ _ ?_) | ((first | clear hK K | clear IH hK K); (first | clear hK K | clear IH hK K); refine hK _ _ ?_) | ((first | clear hK K | clear IH hK K); (first | clear hK K | clear IH hK K); (first | clear hK K | clear IH hK K); refine hK _ _ ?_)); try (first | clear hK K | clear IH hK K)) | refine AI_cond_t rfl (by first | assumption | with_reducible rfl) ?_ | refine AI_cond_f rfl (by first | assumption | with_reducible rfl) ?_ | refine AS_gy rfl (by first | assumption | with_reducible rfl) ?_ | refine AS_gtn rfl (by first | assumption | with_reducible rfl) ?_ | refine AS_gfn rfl (by first | assumption | with_reducible rfl) ?_ | refine AI_block (AI_loop ?_) | refine AI_block ?_ | refine AI_ret ⟨_, rfl, ?_⟩)
  · exact ⟨by simp [hc', oneA], rfl⟩
  · exact ⟨by first | (simp [oneA, hc']; done) | (simp [oneA, hc']; omega), rfl⟩

theorem l1In_ac (n lo hi : Int) (h : AH) : AC Try.prog 60 [.i .i64 n, .i .i64 lo, .i .i64 hi] h (fun v h' => v = .b (decide (lo ≤ n ∧ n ≤ hi)) ∧ h = h') := by
  refine e60 _ _ _ fun wf => ?_
  unfold c60
  repeat (first | refine AI_seqk fun K hK => ?_ | refine AI_reg ?_ | ((first | refine wmv rfl ?_ | refine wag rfl ?_ | refine war _ rfl rfl rfl (by omega) (by omega) ?_ | refine wbn rfl rfl rfl ?_ | refine wnt rfl ?_ | refine wex rfl rfl ?_ | refine wpt rfl (by first | assumption | with_reducible rfl) rfl ?_ | refine wpf rfl (by first | assumption | with_reducible rfl) rfl ?_ | refine wpb rfl rfl rfl ?_ | refine wmf rfl ?_ | refine wnc rfl ?_ | refine wbq Try.underlying4 rfl rfl _ (.inr ⟨rfl, rfl⟩) ?_ | refine wbq Try.underlying4 rfl rfl _ (.inl ⟨rfl, rfl⟩) ?_); try dsimp only [st, List.set_cons_zero, List.set_cons_succ]) | ((first | refine AS_nil ?_ | refine AI_skip ?_ | refine AI_exit ?_); try simp only [AThen, ABlk, reduceIte, reduceCtorEq]) | ((first | refine hK _ _ ?_ | ((first | clear hK K | clear IH hK K); refine hK _ _ ?_) | ((first | clear hK K | clear IH hK K); (first | clear hK K | clear IH hK K); refine hK _ _ ?_) | ((first | clear hK K | clear IH hK K); (first | clear hK K | clear IH hK K); (first | clear hK K | clear IH hK K); refine hK _ _ ?_)); try (first | clear hK K | clear IH hK K)) | refine AI_cond_t rfl (by first | assumption | with_reducible rfl) ?_ | refine AI_cond_f rfl (by first | assumption | with_reducible rfl) ?_ | refine AS_gy rfl (by first | assumption | with_reducible rfl) ?_ | refine AS_gtn rfl (by first | assumption | with_reducible rfl) ?_ | refine AS_gfn rfl (by first | assumption | with_reducible rfl) ?_ | refine AI_block (AI_loop ?_) | refine AI_block ?_ | refine AI_ret ⟨_, rfl, ?_⟩)
  (first | refine AS_gt rfl ?_ ?_ | refine AS_gf rfl ?_ ?_ | refine AI_cond rfl ?_ ?_) <;> intro hc <;> have hc' := hc <;> try simp only [decide_eq_true_eq, decide_eq_false_iff_not, Bool.not_eq_true', Bool.not_eq_false', Bool.not_eq_true, Bool.not_eq_false, beq_iff_eq, bne_iff_ne, beq_eq_false_iff_ne, bne_eq_false_iff_eq, Int.not_lt, Int.not_le, ge_iff_le, gt_iff_lt, not_and, ne_eq, Decidable.not_not] at hc'
  all_goals
    repeat (first | refine AI_seqk fun K hK => ?_ | refine AI_reg ?_ | ((first | refine wmv rfl ?_ | refine wag rfl ?_ | refine war _ rfl rfl rfl (by omega) (by omega) ?_ | refine wbn rfl rfl rfl ?_ | refine wnt rfl ?_ | refine wex rfl rfl ?_ | refine wpt rfl (by first | assumption | with_reducible rfl) rfl ?_ | refine wpf rfl (by first | assumption | with_reducible rfl) rfl ?_ | refine wpb rfl rfl rfl ?_ | refine wmf rfl ?_ | refine wnc rfl ?_ | refine wbq Try.underlying4 rfl rfl _ (.inr ⟨rfl, rfl⟩) ?_ | refine wbq Try.underlying4 rfl rfl _ (.inl ⟨rfl, rfl⟩) ?_); try dsimp only [st, List.set_cons_zero, List.set_cons_succ]) | ((first | refine AS_nil ?_ | refine AI_skip ?_ | refine AI_exit ?_); try simp only [AThen, ABlk, reduceIte, reduceCtorEq]) | ((first | refine hK _ _ ?_ | ((first | clear hK K | clear IH hK K); refine hK _ _ ?_) | ((first | clear hK K | clear IH hK K); (first | clear hK K | clear IH hK K); refine hK _ _ ?_) | ((first | clear hK K | clear IH hK K); (first | clear hK K | clear IH hK K); (first | clear hK K | clear IH hK K); refine hK _ _ ?_)); try (first | clear hK K | clear IH hK K)) | refine AI_cond_t rfl (by first | assumption | with_reducible rfl) ?_ | refine AI_cond_f rfl (by first | assumption | with_reducible rfl) ?_ | refine AS_gy rfl (by first | assumption | with_reducible rfl) ?_ | refine AS_gtn rfl (by first | assumption | with_reducible rfl) ?_ | refine AS_gfn rfl (by first | assumption | with_reducible rfl) ?_ | refine AI_block (AI_loop ?_) | refine AI_block ?_ | refine AI_ret ⟨_, rfl, ?_⟩)
  · exact ⟨by simp [hc', oneA], rfl⟩
  · exact ⟨by first | (simp [oneA, hc']; done) | (simp [oneA, hc']; omega), rfl⟩

/-- A predicate handed over: what it answers, in whatever heap that has grown. -/
def Pred {α : Type} (P : Program) (g : FuncId) (caps : List AV) (enc : α → AV) (h : AH) (p : α → Bool) (l : List α) : Prop :=
  ∀ x ∈ l, ∀ h', h.le h' → AC P g (enc x :: caps) h' (fun v h'' => v = .b (p x) ∧ h'.le h'')

/-- The first place from i on. -/
def idxFrom {α : Type} (p : α → Bool) : List α → Int → Int
  | [], _ => -1
  | x :: l, i => if p x then i else idxFrom p l (i + 1)

theorem idxFrom_any {α : Type} (p : α → Bool) : ∀ (l : List α) (i : Int), 0 ≤ i → (decide (0 ≤ idxFrom p l i)) = l.any p
  | [], i, _ => by simp [idxFrom]
  | x :: l, i, h => by
    cases hp : p x <;> simp [idxFrom, hp, h]
    rw [← idxFrom_any p l (i + 1) (by omega)]

theorem drop_at {α : Type} {l : List α} {i : Int} (h0 : 0 ≤ i) (h1 : i < l.length) : ∃ y, l[i.toNat]? = some y ∧ y ∈ l ∧ l.drop i.toNat = y :: l.drop (i.toNat + 1) := by
  have hlt : i.toNat < l.length := by omega
  exact ⟨l[i.toNat], List.getElem?_eq_getElem hlt, List.getElem_mem hlt, List.drop_eq_getElem_cons hlt⟩

theorem toNat_succ {i : Int} (h0 : 0 ≤ i) : (i + 1).toNat = i.toNat + 1 := by omega

theorem IndexFunc_int_ac (l : List Int) (v : AV) (g : FuncId) (caps : List AV) (p : Int → Bool) (h : AH) (hR : RdG 1 enI h v l) (hl : l.length ≤ 4611686018427387904)
    (hp : Pred Try.prog g caps (.i .i64) h p l) :
    AC Try.prog 139 [v, .f g caps] h (fun r h' => r = .i .i64 (idxFrom p l 0) ∧ h.le h') := by
  refine e139 _ _ fun wf => ?_
  unfold c139
  repeat (first | refine AI_seqk fun K hK => ?_ | refine AI_reg ?_ | ((first | refine wmv rfl ?_ | refine wag rfl ?_ | refine war _ rfl rfl rfl (by omega) (by omega) ?_ | refine wbn rfl rfl rfl ?_ | refine wnt rfl ?_ | refine wex rfl rfl ?_ | refine wpt rfl (by first | assumption | with_reducible rfl) rfl ?_ | refine wpf rfl (by first | assumption | with_reducible rfl) rfl ?_ | refine wpb rfl rfl rfl ?_ | refine wmf rfl ?_ | refine wnc rfl ?_ | refine wbq Try.underlying4 rfl rfl _ (.inr ⟨rfl, rfl⟩) ?_ | refine wbq Try.underlying4 rfl rfl _ (.inl ⟨rfl, rfl⟩) ?_); try dsimp only [st, List.set_cons_zero, List.set_cons_succ]) | ((first | refine AS_nil ?_ | refine AI_skip ?_ | refine AI_exit ?_); try simp only [AThen, ABlk, reduceIte, reduceCtorEq]) | ((first | refine hK _ _ ?_ | ((first | clear hK K | clear IH hK K); refine hK _ _ ?_) | ((first | clear hK K | clear IH hK K); (first | clear hK K | clear IH hK K); refine hK _ _ ?_) | ((first | clear hK K | clear IH hK K); (first | clear hK K | clear IH hK K); (first | clear hK K | clear IH hK K); refine hK _ _ ?_)); try (first | clear hK K | clear IH hK K)) | refine AI_cond_t rfl (by first | assumption | with_reducible rfl) ?_ | refine AI_cond_f rfl (by first | assumption | with_reducible rfl) ?_ | refine AS_gy rfl (by first | assumption | with_reducible rfl) ?_ | refine AS_gtn rfl (by first | assumption | with_reducible rfl) ?_ | refine AS_gfn rfl (by first | assumption | with_reducible rfl) ?_ | refine AI_block (AI_loop ?_) | refine AI_block ?_ | refine AI_ret ⟨_, rfl, ?_⟩)
  refine AS_op (OpR_lenA Try.underlying25 rfl hR.len ?_)
  try (dsimp only [st, setL, AV.cells, List.set_cons_zero, List.set_cons_succ, List.drop_zero, List.drop_succ_cons, List.take_zero, List.take_succ_cons, Nat.zero_add, Nat.add_zero, Nat.reduceAdd, List.cons_append, List.nil_append, List.eraseIdx_cons_zero, List.eraseIdx_cons_succ])
  repeat (first | refine AI_seqk fun K hK => ?_ | refine AI_reg ?_ | ((first | refine wmv rfl ?_ | refine wag rfl ?_ | refine war _ rfl rfl rfl (by omega) (by omega) ?_ | refine wbn rfl rfl rfl ?_ | refine wnt rfl ?_ | refine wex rfl rfl ?_ | refine wpt rfl (by first | assumption | with_reducible rfl) rfl ?_ | refine wpf rfl (by first | assumption | with_reducible rfl) rfl ?_ | refine wpb rfl rfl rfl ?_ | refine wmf rfl ?_ | refine wnc rfl ?_ | refine wbq Try.underlying4 rfl rfl _ (.inr ⟨rfl, rfl⟩) ?_ | refine wbq Try.underlying4 rfl rfl _ (.inl ⟨rfl, rfl⟩) ?_); try dsimp only [st, List.set_cons_zero, List.set_cons_succ]) | ((first | refine AS_nil ?_ | refine AI_skip ?_ | refine AI_exit ?_); try simp only [AThen, ABlk, reduceIte, reduceCtorEq]) | ((first | refine hK _ _ ?_ | ((first | clear hK K | clear IH hK K); refine hK _ _ ?_) | ((first | clear hK K | clear IH hK K); (first | clear hK K | clear IH hK K); refine hK _ _ ?_) | ((first | clear hK K | clear IH hK K); (first | clear hK K | clear IH hK K); (first | clear hK K | clear IH hK K); refine hK _ _ ?_)); try (first | clear hK K | clear IH hK K)) | refine AI_cond_t rfl (by first | assumption | with_reducible rfl) ?_ | refine AI_cond_f rfl (by first | assumption | with_reducible rfl) ?_ | refine AS_gy rfl (by first | assumption | with_reducible rfl) ?_ | refine AS_gtn rfl (by first | assumption | with_reducible rfl) ?_ | refine AS_gfn rfl (by first | assumption | with_reducible rfl) ?_ | refine AI_block (AI_loop ?_) | refine AI_block ?_ | refine AI_ret ⟨_, rfl, ?_⟩)
  refine AIL_ind (fun (n : Nat) a h' => ∃ (i : Int) (x5 : AV), (∃ r : Nat → AV, a = [v, .f g caps, un, un, .i .i64 0, x5, v, .i .i64 l.length, .i .i64 i, r 9, r 10, r 11, r 12, r 13, r 14, r 15, r 16, r 17, r 18]) ∧ 0 ≤ i ∧ i + n = l.length ∧ h.le h' ∧ idxFrom p l 0 = idxFrom p (l.drop i.toNat) i)
    ?_ l.length _ _ ⟨0, _, exJ rfl, by omega, by omega, .refl _, rfl⟩
  rintro n a h' ⟨i, x5, ⟨r, rfl⟩, h0, hn, hle, hidx⟩ IH
  repeat (first | refine AI_seqk fun K hK => ?_ | refine AI_reg ?_ | ((first | refine wmv rfl ?_ | refine wag rfl ?_ | refine war _ rfl rfl rfl (by omega) (by omega) ?_ | refine wbn rfl rfl rfl ?_ | refine wnt rfl ?_ | refine wex rfl rfl ?_ | refine wpt rfl (by first | assumption | with_reducible rfl) rfl ?_ | refine wpf rfl (by first | assumption | with_reducible rfl) rfl ?_ | refine wpb rfl rfl rfl ?_ | refine wmf rfl ?_ | refine wnc rfl ?_ | refine wbq Try.underlying4 rfl rfl _ (.inr ⟨rfl, rfl⟩) ?_ | refine wbq Try.underlying4 rfl rfl _ (.inl ⟨rfl, rfl⟩) ?_); try dsimp only [st, List.set_cons_zero, List.set_cons_succ]) | ((first | refine AS_nil ?_ | refine AI_skip ?_ | refine AI_exit ?_); try simp only [AThen, ABlk, reduceIte, reduceCtorEq]) | ((first | refine hK _ _ ?_ | ((first | clear hK K | clear IH hK K); refine hK _ _ ?_) | ((first | clear hK K | clear IH hK K); (first | clear hK K | clear IH hK K); refine hK _ _ ?_) | ((first | clear hK K | clear IH hK K); (first | clear hK K | clear IH hK K); (first | clear hK K | clear IH hK K); refine hK _ _ ?_)); try (first | clear hK K | clear IH hK K)) | refine AI_cond_t rfl (by first | assumption | with_reducible rfl) ?_ | refine AI_cond_f rfl (by first | assumption | with_reducible rfl) ?_ | refine AS_gy rfl (by first | assumption | with_reducible rfl) ?_ | refine AS_gtn rfl (by first | assumption | with_reducible rfl) ?_ | refine AS_gfn rfl (by first | assumption | with_reducible rfl) ?_ | refine AI_block (AI_loop ?_) | refine AI_block ?_ | refine AI_ret ⟨_, rfl, ?_⟩)
  (first | refine AS_gt rfl ?_ ?_ | refine AS_gf rfl ?_ ?_ | refine AI_cond rfl ?_ ?_) <;> intro hc <;> have hc' := hc <;> try simp only [decide_eq_true_eq, decide_eq_false_iff_not, Bool.not_eq_true', Bool.not_eq_false', Bool.not_eq_true, Bool.not_eq_false, beq_iff_eq, bne_iff_ne, beq_eq_false_iff_ne, bne_eq_false_iff_eq, Int.not_lt, Int.not_le, ge_iff_le, gt_iff_lt, not_and, ne_eq, Decidable.not_not] at hc'
  all_goals
    repeat (first | refine AI_seqk fun K hK => ?_ | refine AI_reg ?_ | ((first | refine wmv rfl ?_ | refine wag rfl ?_ | refine war _ rfl rfl rfl (by omega) (by omega) ?_ | refine wbn rfl rfl rfl ?_ | refine wnt rfl ?_ | refine wex rfl rfl ?_ | refine wpt rfl (by first | assumption | with_reducible rfl) rfl ?_ | refine wpf rfl (by first | assumption | with_reducible rfl) rfl ?_ | refine wpb rfl rfl rfl ?_ | refine wmf rfl ?_ | refine wnc rfl ?_ | refine wbq Try.underlying4 rfl rfl _ (.inr ⟨rfl, rfl⟩) ?_ | refine wbq Try.underlying4 rfl rfl _ (.inl ⟨rfl, rfl⟩) ?_); try dsimp only [st, List.set_cons_zero, List.set_cons_succ]) | ((first | refine AS_nil ?_ | refine AI_skip ?_ | refine AI_exit ?_); try simp only [AThen, ABlk, reduceIte, reduceCtorEq]) | ((first | refine hK _ _ ?_ | ((first | clear hK K | clear IH hK K); refine hK _ _ ?_) | ((first | clear hK K | clear IH hK K); (first | clear hK K | clear IH hK K); refine hK _ _ ?_) | ((first | clear hK K | clear IH hK K); (first | clear hK K | clear IH hK K); (first | clear hK K | clear IH hK K); refine hK _ _ ?_)); try (first | clear hK K | clear IH hK K)) | refine AI_cond_t rfl (by first | assumption | with_reducible rfl) ?_ | refine AI_cond_f rfl (by first | assumption | with_reducible rfl) ?_ | refine AS_gy rfl (by first | assumption | with_reducible rfl) ?_ | refine AS_gtn rfl (by first | assumption | with_reducible rfl) ?_ | refine AS_gfn rfl (by first | assumption | with_reducible rfl) ?_ | refine AI_block (AI_loop ?_) | refine AI_block ?_ | refine AI_ret ⟨_, rfl, ?_⟩)
  · obtain ⟨y, hy, hmem, hdrop⟩ := drop_at h0 hc'
    rw [hdrop] at hidx
    refine AS_op (OpR_idx Try.underlying25 sz3 rfl rfl (hR.le hle) (fun _ => rfl) h0 hy fun b o hrow => ?_)
    try (dsimp only [st, setL, AV.cells, List.set_cons_zero, List.set_cons_succ, List.drop_zero, List.drop_succ_cons, List.take_zero, List.take_succ_cons, Nat.zero_add, Nat.add_zero, Nat.reduceAdd, List.cons_append, List.nil_append, List.eraseIdx_cons_zero, List.eraseIdx_cons_succ])
    repeat (first | refine AI_seqk fun K hK => ?_ | refine AI_reg ?_ | ((first | refine wmv rfl ?_ | refine wag rfl ?_ | refine war _ rfl rfl rfl (by omega) (by omega) ?_ | refine wbn rfl rfl rfl ?_ | refine wnt rfl ?_ | refine wex rfl rfl ?_ | refine wpt rfl (by first | assumption | with_reducible rfl) rfl ?_ | refine wpf rfl (by first | assumption | with_reducible rfl) rfl ?_ | refine wpb rfl rfl rfl ?_ | refine wmf rfl ?_ | refine wnc rfl ?_ | refine wbq Try.underlying4 rfl rfl _ (.inr ⟨rfl, rfl⟩) ?_ | refine wbq Try.underlying4 rfl rfl _ (.inl ⟨rfl, rfl⟩) ?_); try dsimp only [st, List.set_cons_zero, List.set_cons_succ]) | ((first | refine AS_nil ?_ | refine AI_skip ?_ | refine AI_exit ?_); try simp only [AThen, ABlk, reduceIte, reduceCtorEq]) | ((first | refine hK _ _ ?_ | ((first | clear hK K | clear IH hK K); refine hK _ _ ?_) | ((first | clear hK K | clear IH hK K); (first | clear hK K | clear IH hK K); refine hK _ _ ?_) | ((first | clear hK K | clear IH hK K); (first | clear hK K | clear IH hK K); (first | clear hK K | clear IH hK K); refine hK _ _ ?_)); try (first | clear hK K | clear IH hK K)) | refine AI_cond_t rfl (by first | assumption | with_reducible rfl) ?_ | refine AI_cond_f rfl (by first | assumption | with_reducible rfl) ?_ | refine AS_gy rfl (by first | assumption | with_reducible rfl) ?_ | refine AS_gtn rfl (by first | assumption | with_reducible rfl) ?_ | refine AS_gfn rfl (by first | assumption | with_reducible rfl) ?_ | refine AI_block (AI_loop ?_) | refine AI_block ?_ | refine AI_ret ⟨_, rfl, ?_⟩)
    refine AS_op (OpR_load rfl (loadA_1 ag3 (cell_row hrow)) ?_)
    try (dsimp only [st, setL, AV.cells, List.set_cons_zero, List.set_cons_succ, List.drop_zero, List.drop_succ_cons, List.take_zero, List.take_succ_cons, Nat.zero_add, Nat.add_zero, Nat.reduceAdd, List.cons_append, List.nil_append, List.eraseIdx_cons_zero, List.eraseIdx_cons_succ])
    repeat (first | refine AI_seqk fun K hK => ?_ | refine AI_reg ?_ | ((first | refine wmv rfl ?_ | refine wag rfl ?_ | refine war _ rfl rfl rfl (by omega) (by omega) ?_ | refine wbn rfl rfl rfl ?_ | refine wnt rfl ?_ | refine wex rfl rfl ?_ | refine wpt rfl (by first | assumption | with_reducible rfl) rfl ?_ | refine wpf rfl (by first | assumption | with_reducible rfl) rfl ?_ | refine wpb rfl rfl rfl ?_ | refine wmf rfl ?_ | refine wnc rfl ?_ | refine wbq Try.underlying4 rfl rfl _ (.inr ⟨rfl, rfl⟩) ?_ | refine wbq Try.underlying4 rfl rfl _ (.inl ⟨rfl, rfl⟩) ?_); try dsimp only [st, List.set_cons_zero, List.set_cons_succ]) | ((first | refine AS_nil ?_ | refine AI_skip ?_ | refine AI_exit ?_); try simp only [AThen, ABlk, reduceIte, reduceCtorEq]) | ((first | refine hK _ _ ?_ | ((first | clear hK K | clear IH hK K); refine hK _ _ ?_) | ((first | clear hK K | clear IH hK K); (first | clear hK K | clear IH hK K); refine hK _ _ ?_) | ((first | clear hK K | clear IH hK K); (first | clear hK K | clear IH hK K); (first | clear hK K | clear IH hK K); refine hK _ _ ?_)); try (first | clear hK K | clear IH hK K)) | refine AI_cond_t rfl (by first | assumption | with_reducible rfl) ?_ | refine AI_cond_f rfl (by first | assumption | with_reducible rfl) ?_ | refine AS_gy rfl (by first | assumption | with_reducible rfl) ?_ | refine AS_gtn rfl (by first | assumption | with_reducible rfl) ?_ | refine AS_gfn rfl (by first | assumption | with_reducible rfl) ?_ | refine AI_block (AI_loop ?_) | refine AI_block ?_ | refine AI_ret ⟨_, rfl, ?_⟩)
    refine AS_op (OpR_call rfl rfl (hp y hmem _ hle) ?_)
    rintro _ h2 wf1 ⟨rfl, hle2⟩
    try (dsimp only [st, setL, AV.cells, List.set_cons_zero, List.set_cons_succ, List.drop_zero, List.drop_succ_cons, List.take_zero, List.take_succ_cons, Nat.zero_add, Nat.add_zero, Nat.reduceAdd, List.cons_append, List.nil_append, List.eraseIdx_cons_zero, List.eraseIdx_cons_succ])
    repeat (first | refine AI_seqk fun K hK => ?_ | refine AI_reg ?_ | ((first | refine wmv rfl ?_ | refine wag rfl ?_ | refine war _ rfl rfl rfl (by omega) (by omega) ?_ | refine wbn rfl rfl rfl ?_ | refine wnt rfl ?_ | refine wex rfl rfl ?_ | refine wpt rfl (by first | assumption | with_reducible rfl) rfl ?_ | refine wpf rfl (by first | assumption | with_reducible rfl) rfl ?_ | refine wpb rfl rfl rfl ?_ | refine wmf rfl ?_ | refine wnc rfl ?_ | refine wbq Try.underlying4 rfl rfl _ (.inr ⟨rfl, rfl⟩) ?_ | refine wbq Try.underlying4 rfl rfl _ (.inl ⟨rfl, rfl⟩) ?_); try dsimp only [st, List.set_cons_zero, List.set_cons_succ]) | ((first | refine AS_nil ?_ | refine AI_skip ?_ | refine AI_exit ?_); try simp only [AThen, ABlk, reduceIte, reduceCtorEq]) | ((first | refine hK _ _ ?_ | ((first | clear hK K | clear IH hK K); refine hK _ _ ?_) | ((first | clear hK K | clear IH hK K); (first | clear hK K | clear IH hK K); refine hK _ _ ?_) | ((first | clear hK K | clear IH hK K); (first | clear hK K | clear IH hK K); (first | clear hK K | clear IH hK K); refine hK _ _ ?_)); try (first | clear hK K | clear IH hK K)) | refine AI_cond_t rfl (by first | assumption | with_reducible rfl) ?_ | refine AI_cond_f rfl (by first | assumption | with_reducible rfl) ?_ | refine AS_gy rfl (by first | assumption | with_reducible rfl) ?_ | refine AS_gtn rfl (by first | assumption | with_reducible rfl) ?_ | refine AS_gfn rfl (by first | assumption | with_reducible rfl) ?_ | refine AI_block (AI_loop ?_) | refine AI_block ?_ | refine AI_ret ⟨_, rfl, ?_⟩)
    (first | refine AS_gt rfl ?_ ?_ | refine AS_gf rfl ?_ ?_ | refine AI_cond rfl ?_ ?_) <;> intro hc <;> have hc' := hc <;> try simp only [decide_eq_true_eq, decide_eq_false_iff_not, Bool.not_eq_true', Bool.not_eq_false', Bool.not_eq_true, Bool.not_eq_false, beq_iff_eq, bne_iff_ne, beq_eq_false_iff_ne, bne_eq_false_iff_eq, Int.not_lt, Int.not_le, ge_iff_le, gt_iff_lt, not_and, ne_eq, Decidable.not_not] at hc'
    all_goals
      repeat (first | refine AI_seqk fun K hK => ?_ | refine AI_reg ?_ | ((first | refine wmv rfl ?_ | refine wag rfl ?_ | refine war _ rfl rfl rfl (by omega) (by omega) ?_ | refine wbn rfl rfl rfl ?_ | refine wnt rfl ?_ | refine wex rfl rfl ?_ | refine wpt rfl (by first | assumption | with_reducible rfl) rfl ?_ | refine wpf rfl (by first | assumption | with_reducible rfl) rfl ?_ | refine wpb rfl rfl rfl ?_ | refine wmf rfl ?_ | refine wnc rfl ?_ | refine wbq Try.underlying4 rfl rfl _ (.inr ⟨rfl, rfl⟩) ?_ | refine wbq Try.underlying4 rfl rfl _ (.inl ⟨rfl, rfl⟩) ?_); try dsimp only [st, List.set_cons_zero, List.set_cons_succ]) | ((first | refine AS_nil ?_ | refine AI_skip ?_ | refine AI_exit ?_); try simp only [AThen, ABlk, reduceIte, reduceCtorEq]) | ((first | refine hK _ _ ?_ | ((first | clear hK K | clear IH hK K); refine hK _ _ ?_) | ((first | clear hK K | clear IH hK K); (first | clear hK K | clear IH hK K); refine hK _ _ ?_) | ((first | clear hK K | clear IH hK K); (first | clear hK K | clear IH hK K); (first | clear hK K | clear IH hK K); refine hK _ _ ?_)); try (first | clear hK K | clear IH hK K)) | refine AI_cond_t rfl (by first | assumption | with_reducible rfl) ?_ | refine AI_cond_f rfl (by first | assumption | with_reducible rfl) ?_ | refine AS_gy rfl (by first | assumption | with_reducible rfl) ?_ | refine AS_gtn rfl (by first | assumption | with_reducible rfl) ?_ | refine AS_gfn rfl (by first | assumption | with_reducible rfl) ?_ | refine AI_block (AI_loop ?_) | refine AI_block ?_ | refine AI_ret ⟨_, rfl, ?_⟩)
    · refine ⟨?_, hle.trans hle2⟩
      rw [hidx]
      simp [idxFrom, hc, oneA]
    · refine IH (n - 1) _ _ (by omega) ⟨i + 1, _, exJ rfl, by omega, by omega, hle.trans hle2, ?_⟩
      rw [hidx, toNat_succ h0]
      simp [idxFrom, hc]
  · refine ⟨?_, hle⟩
    rw [hidx, List.drop_eq_nil_of_le (by omega)]
    rfl

theorem ContainsFunc_int_ac (l : List Int) (v : AV) (g : FuncId) (caps : List AV) (p : Int → Bool) (h : AH) (hR : RdG 1 enI h v l) (hl : l.length ≤ 4611686018427387904)
    (hp : Pred Try.prog g caps (.i .i64) h p l) :
    AC Try.prog 120 [v, .f g caps] h (fun r h' => r = .b (l.any p) ∧ h.le h') := by
  refine e120 _ _ fun wf => ?_
  unfold c120
  repeat (first | refine AI_seqk fun K hK => ?_ | refine AI_reg ?_ | ((first | refine wmv rfl ?_ | refine wag rfl ?_ | refine war _ rfl rfl rfl (by omega) (by omega) ?_ | refine wbn rfl rfl rfl ?_ | refine wnt rfl ?_ | refine wex rfl rfl ?_ | refine wpt rfl (by first | assumption | with_reducible rfl) rfl ?_ | refine wpf rfl (by first | assumption | with_reducible rfl) rfl ?_ | refine wpb rfl rfl rfl ?_ | refine wmf rfl ?_ | refine wnc rfl ?_ | refine wbq Try.underlying4 rfl rfl _ (.inr ⟨rfl, rfl⟩) ?_ | refine wbq Try.underlying4 rfl rfl _ (.inl ⟨rfl, rfl⟩) ?_); try dsimp only [st, List.set_cons_zero, List.set_cons_succ]) | ((first | refine AS_nil ?_ | refine AI_skip ?_ | refine AI_exit ?_); try simp only [AThen, ABlk, reduceIte, reduceCtorEq]) | ((first | refine hK _ _ ?_ | ((first | clear hK K | clear IH hK K); refine hK _ _ ?_) | ((first | clear hK K | clear IH hK K); (first | clear hK K | clear IH hK K); refine hK _ _ ?_) | ((first | clear hK K | clear IH hK K); (first | clear hK K | clear IH hK K); (first | clear hK K | clear IH hK K); refine hK _ _ ?_)); try (first | clear hK K | clear IH hK K)) | refine AI_cond_t rfl (by first | assumption | with_reducible rfl) ?_ | refine AI_cond_f rfl (by first | assumption | with_reducible rfl) ?_ | refine AS_gy rfl (by first | assumption | with_reducible rfl) ?_ | refine AS_gtn rfl (by first | assumption | with_reducible rfl) ?_ | refine AS_gfn rfl (by first | assumption | with_reducible rfl) ?_ | refine AI_block (AI_loop ?_) | refine AI_block ?_ | refine AI_ret ⟨_, rfl, ?_⟩)
  refine AS_op (OpR_call rfl rfl (IndexFunc_int_ac l v g caps p _ hR hl hp) ?_)
  rintro _ h2 wf1 ⟨rfl, hle2⟩
  try (dsimp only [st, setL, AV.cells, List.set_cons_zero, List.set_cons_succ, List.drop_zero, List.drop_succ_cons, List.take_zero, List.take_succ_cons, Nat.zero_add, Nat.add_zero, Nat.reduceAdd, List.cons_append, List.nil_append, List.eraseIdx_cons_zero, List.eraseIdx_cons_succ])
  repeat (first | refine AI_seqk fun K hK => ?_ | refine AI_reg ?_ | ((first | refine wmv rfl ?_ | refine wag rfl ?_ | refine war _ rfl rfl rfl (by omega) (by omega) ?_ | refine wbn rfl rfl rfl ?_ | refine wnt rfl ?_ | refine wex rfl rfl ?_ | refine wpt rfl (by first | assumption | with_reducible rfl) rfl ?_ | refine wpf rfl (by first | assumption | with_reducible rfl) rfl ?_ | refine wpb rfl rfl rfl ?_ | refine wmf rfl ?_ | refine wnc rfl ?_ | refine wbq Try.underlying4 rfl rfl _ (.inr ⟨rfl, rfl⟩) ?_ | refine wbq Try.underlying4 rfl rfl _ (.inl ⟨rfl, rfl⟩) ?_); try dsimp only [st, List.set_cons_zero, List.set_cons_succ]) | ((first | refine AS_nil ?_ | refine AI_skip ?_ | refine AI_exit ?_); try simp only [AThen, ABlk, reduceIte, reduceCtorEq]) | ((first | refine hK _ _ ?_ | ((first | clear hK K | clear IH hK K); refine hK _ _ ?_) | ((first | clear hK K | clear IH hK K); (first | clear hK K | clear IH hK K); refine hK _ _ ?_) | ((first | clear hK K | clear IH hK K); (first | clear hK K | clear IH hK K); (first | clear hK K | clear IH hK K); refine hK _ _ ?_)); try (first | clear hK K | clear IH hK K)) | refine AI_cond_t rfl (by first | assumption | with_reducible rfl) ?_ | refine AI_cond_f rfl (by first | assumption | with_reducible rfl) ?_ | refine AS_gy rfl (by first | assumption | with_reducible rfl) ?_ | refine AS_gtn rfl (by first | assumption | with_reducible rfl) ?_ | refine AS_gfn rfl (by first | assumption | with_reducible rfl) ?_ | refine AI_block (AI_loop ?_) | refine AI_block ?_ | refine AI_ret ⟨_, rfl, ?_⟩)
  refine ⟨?_, hle2⟩
  simp only [oneA, ← idxFrom_any p l 0 (by omega), ge_iff_le]

theorem take_set {l : List Int} {i : Nat} {y : Int} (h : i < l.length) (hy : l[i]? = some y) :
    (l.take i ++ List.replicate (l.length - i) (0 : Int)).set i y = l.take (i + 1) ++ List.replicate (l.length - (i + 1)) (0 : Int) := by
  have h1 : (l.take i).length = i := by simp; omega
  rw [List.set_append_right _ _ (by omega), h1, Nat.sub_self, show l.length - i = (l.length - (i + 1)) + 1 by omega, List.replicate_succ, List.set_cons_zero, List.take_add_one, hy]
  simp

theorem rep0 (n : Nat) : List.replicate n (AV.i .i64 0) = (List.replicate n (0 : Int)).flatMap enI := by
  induction n with
  | zero => rfl
  | succ n ih => simp [List.replicate_succ, ih, enI]

theorem toIntS_own (l : List Int) (v : AV) (h : AH) (hR : Rd h v l) (hl : l.length ≤ 1048576) :
    AC Try.prog 36 [v] h (fun r h' => Own h 1 enI h' r l) := by
  refine e36 _ fun wf => ?_
  unfold c36
  repeat (first | refine AI_seqk fun K hK => ?_ | refine AI_reg ?_ | ((first | refine wmv rfl ?_ | refine wag rfl ?_ | refine war _ rfl rfl rfl (by omega) (by omega) ?_ | refine wbn rfl rfl rfl ?_ | refine wnt rfl ?_ | refine wex rfl rfl ?_ | refine wpt rfl (by first | assumption | with_reducible rfl) rfl ?_ | refine wpf rfl (by first | assumption | with_reducible rfl) rfl ?_ | refine wpb rfl rfl rfl ?_ | refine wmf rfl ?_ | refine wnc rfl ?_ | refine wbq Try.underlying4 rfl rfl _ (.inr ⟨rfl, rfl⟩) ?_ | refine wbq Try.underlying4 rfl rfl _ (.inl ⟨rfl, rfl⟩) ?_); try dsimp only [st, List.set_cons_zero, List.set_cons_succ]) | ((first | refine AS_nil ?_ | refine AI_skip ?_ | refine AI_exit ?_); try simp only [AThen, ABlk, reduceIte, reduceCtorEq]) | ((first | refine hK _ _ ?_ | ((first | clear hK K | clear IH hK K); refine hK _ _ ?_) | ((first | clear hK K | clear IH hK K); (first | clear hK K | clear IH hK K); refine hK _ _ ?_) | ((first | clear hK K | clear IH hK K); (first | clear hK K | clear IH hK K); (first | clear hK K | clear IH hK K); refine hK _ _ ?_)); try (first | clear hK K | clear IH hK K)) | refine AI_cond_t rfl (by first | assumption | with_reducible rfl) ?_ | refine AI_cond_f rfl (by first | assumption | with_reducible rfl) ?_ | refine AS_gy rfl (by first | assumption | with_reducible rfl) ?_ | refine AS_gtn rfl (by first | assumption | with_reducible rfl) ?_ | refine AS_gfn rfl (by first | assumption | with_reducible rfl) ?_ | refine AI_block (AI_loop ?_) | refine AI_block ?_ | refine AI_ret ⟨_, rfl, ?_⟩)
  refine AS_op (OpR_lenA Try.underlying25 rfl hR.len ?_)
  try (dsimp only [st, setL, AV.cells, List.set_cons_zero, List.set_cons_succ, List.drop_zero, List.drop_succ_cons, List.take_zero, List.take_succ_cons, Nat.zero_add, Nat.add_zero, Nat.reduceAdd, List.cons_append, List.nil_append, List.eraseIdx_cons_zero, List.eraseIdx_cons_succ])
  repeat (first | refine AI_seqk fun K hK => ?_ | refine AI_reg ?_ | ((first | refine wmv rfl ?_ | refine wag rfl ?_ | refine war _ rfl rfl rfl (by omega) (by omega) ?_ | refine wbn rfl rfl rfl ?_ | refine wnt rfl ?_ | refine wex rfl rfl ?_ | refine wpt rfl (by first | assumption | with_reducible rfl) rfl ?_ | refine wpf rfl (by first | assumption | with_reducible rfl) rfl ?_ | refine wpb rfl rfl rfl ?_ | refine wmf rfl ?_ | refine wnc rfl ?_ | refine wbq Try.underlying4 rfl rfl _ (.inr ⟨rfl, rfl⟩) ?_ | refine wbq Try.underlying4 rfl rfl _ (.inl ⟨rfl, rfl⟩) ?_); try dsimp only [st, List.set_cons_zero, List.set_cons_succ]) | ((first | refine AS_nil ?_ | refine AI_skip ?_ | refine AI_exit ?_); try simp only [AThen, ABlk, reduceIte, reduceCtorEq]) | ((first | refine hK _ _ ?_ | ((first | clear hK K | clear IH hK K); refine hK _ _ ?_) | ((first | clear hK K | clear IH hK K); (first | clear hK K | clear IH hK K); refine hK _ _ ?_) | ((first | clear hK K | clear IH hK K); (first | clear hK K | clear IH hK K); (first | clear hK K | clear IH hK K); refine hK _ _ ?_)); try (first | clear hK K | clear IH hK K)) | refine AI_cond_t rfl (by first | assumption | with_reducible rfl) ?_ | refine AI_cond_f rfl (by first | assumption | with_reducible rfl) ?_ | refine AS_gy rfl (by first | assumption | with_reducible rfl) ?_ | refine AS_gtn rfl (by first | assumption | with_reducible rfl) ?_ | refine AS_gfn rfl (by first | assumption | with_reducible rfl) ?_ | refine AI_block (AI_loop ?_) | refine AI_block ?_ | refine AI_ret ⟨_, rfl, ?_⟩)
  refine AS_op (OpR_make Try.underlying25 sz3 by3 ze3 rfl rfl rfl rfl rfl (by omega) (by omega) (by omega) ?_)
  try (dsimp only [st, setL, AV.cells, List.set_cons_zero, List.set_cons_succ, List.drop_zero, List.drop_succ_cons, List.take_zero, List.take_succ_cons, Nat.zero_add, Nat.add_zero, Nat.reduceAdd, List.cons_append, List.nil_append, List.eraseIdx_cons_zero, List.eraseIdx_cons_succ])
  repeat (first | refine AI_seqk fun K hK => ?_ | refine AI_reg ?_ | ((first | refine wmv rfl ?_ | refine wag rfl ?_ | refine war _ rfl rfl rfl (by omega) (by omega) ?_ | refine wbn rfl rfl rfl ?_ | refine wnt rfl ?_ | refine wex rfl rfl ?_ | refine wpt rfl (by first | assumption | with_reducible rfl) rfl ?_ | refine wpf rfl (by first | assumption | with_reducible rfl) rfl ?_ | refine wpb rfl rfl rfl ?_ | refine wmf rfl ?_ | refine wnc rfl ?_ | refine wbq Try.underlying4 rfl rfl _ (.inr ⟨rfl, rfl⟩) ?_ | refine wbq Try.underlying4 rfl rfl _ (.inl ⟨rfl, rfl⟩) ?_); try dsimp only [st, List.set_cons_zero, List.set_cons_succ]) | ((first | refine AS_nil ?_ | refine AI_skip ?_ | refine AI_exit ?_); try simp only [AThen, ABlk, reduceIte, reduceCtorEq]) | ((first | refine hK _ _ ?_ | ((first | clear hK K | clear IH hK K); refine hK _ _ ?_) | ((first | clear hK K | clear IH hK K); (first | clear hK K | clear IH hK K); refine hK _ _ ?_) | ((first | clear hK K | clear IH hK K); (first | clear hK K | clear IH hK K); (first | clear hK K | clear IH hK K); refine hK _ _ ?_)); try (first | clear hK K | clear IH hK K)) | refine AI_cond_t rfl (by first | assumption | with_reducible rfl) ?_ | refine AI_cond_f rfl (by first | assumption | with_reducible rfl) ?_ | refine AS_gy rfl (by first | assumption | with_reducible rfl) ?_ | refine AS_gtn rfl (by first | assumption | with_reducible rfl) ?_ | refine AS_gfn rfl (by first | assumption | with_reducible rfl) ?_ | refine AI_block (AI_loop ?_) | refine AI_block ?_ | refine AI_ret ⟨_, rfl, ?_⟩)
  refine AIL_ind (fun (n : Nat) a h' => ∃ (i : Int), (∃ r : Nat → AV, a = [v, un, .ns, .sl h.cs.length 0 l.length true, .i .i64 i, r 5, r 6, r 7, r 8, r 9, r 10, r 11, r 12, r 13, r 14, r 15, r 16, r 17, r 18, r 19, r 20, r 21]) ∧ 0 ≤ i ∧ i + n = l.length ∧ Mut h 1 enI h' h.cs.length (l.take i.toNat ++ List.replicate (l.length - i.toNat) (0 : Int)))
    ?_ l.length _ _ ⟨0, exJ rfl, by omega, by omega, Mut.fresh wf (.refl h) wf _ (by simpa using rep0 l.length)⟩
  rintro n a h' ⟨i, ⟨r, rfl⟩, h0, hn, hM⟩ IH
  repeat (first | refine AI_seqk fun K hK => ?_ | refine AI_reg ?_ | ((first | refine wmv rfl ?_ | refine wag rfl ?_ | refine war _ rfl rfl rfl (by omega) (by omega) ?_ | refine wbn rfl rfl rfl ?_ | refine wnt rfl ?_ | refine wex rfl rfl ?_ | refine wpt rfl (by first | assumption | with_reducible rfl) rfl ?_ | refine wpf rfl (by first | assumption | with_reducible rfl) rfl ?_ | refine wpb rfl rfl rfl ?_ | refine wmf rfl ?_ | refine wnc rfl ?_ | refine wbq Try.underlying4 rfl rfl _ (.inr ⟨rfl, rfl⟩) ?_ | refine wbq Try.underlying4 rfl rfl _ (.inl ⟨rfl, rfl⟩) ?_); try dsimp only [st, List.set_cons_zero, List.set_cons_succ]) | ((first | refine AS_nil ?_ | refine AI_skip ?_ | refine AI_exit ?_); try simp only [AThen, ABlk, reduceIte, reduceCtorEq]) | ((first | refine hK _ _ ?_ | ((first | clear hK K | clear IH hK K); refine hK _ _ ?_) | ((first | clear hK K | clear IH hK K); (first | clear hK K | clear IH hK K); refine hK _ _ ?_) | ((first | clear hK K | clear IH hK K); (first | clear hK K | clear IH hK K); (first | clear hK K | clear IH hK K); refine hK _ _ ?_)); try (first | clear hK K | clear IH hK K)) | refine AI_cond_t rfl (by first | assumption | with_reducible rfl) ?_ | refine AI_cond_f rfl (by first | assumption | with_reducible rfl) ?_ | refine AS_gy rfl (by first | assumption | with_reducible rfl) ?_ | refine AS_gtn rfl (by first | assumption | with_reducible rfl) ?_ | refine AS_gfn rfl (by first | assumption | with_reducible rfl) ?_ | refine AI_block (AI_loop ?_) | refine AI_block ?_ | refine AI_ret ⟨_, rfl, ?_⟩)
  refine AS_op (OpR_lenA Try.underlying25 rfl hR.len ?_)
  try (dsimp only [st, setL, AV.cells, List.set_cons_zero, List.set_cons_succ, List.drop_zero, List.drop_succ_cons, List.take_zero, List.take_succ_cons, Nat.zero_add, Nat.add_zero, Nat.reduceAdd, List.cons_append, List.nil_append, List.eraseIdx_cons_zero, List.eraseIdx_cons_succ])
  repeat (first | refine AI_seqk fun K hK => ?_ | refine AI_reg ?_ | ((first | refine wmv rfl ?_ | refine wag rfl ?_ | refine war _ rfl rfl rfl (by omega) (by omega) ?_ | refine wbn rfl rfl rfl ?_ | refine wnt rfl ?_ | refine wex rfl rfl ?_ | refine wpt rfl (by first | assumption | with_reducible rfl) rfl ?_ | refine wpf rfl (by first | assumption | with_reducible rfl) rfl ?_ | refine wpb rfl rfl rfl ?_ | refine wmf rfl ?_ | refine wnc rfl ?_ | refine wbq Try.underlying4 rfl rfl _ (.inr ⟨rfl, rfl⟩) ?_ | refine wbq Try.underlying4 rfl rfl _ (.inl ⟨rfl, rfl⟩) ?_); try dsimp only [st, List.set_cons_zero, List.set_cons_succ]) | ((first | refine AS_nil ?_ | refine AI_skip ?_ | refine AI_exit ?_); try simp only [AThen, ABlk, reduceIte, reduceCtorEq]) | ((first | refine hK _ _ ?_ | ((first | clear hK K | clear IH hK K); refine hK _ _ ?_) | ((first | clear hK K | clear IH hK K); (first | clear hK K | clear IH hK K); refine hK _ _ ?_) | ((first | clear hK K | clear IH hK K); (first | clear hK K | clear IH hK K); (first | clear hK K | clear IH hK K); refine hK _ _ ?_)); try (first | clear hK K | clear IH hK K)) | refine AI_cond_t rfl (by first | assumption | with_reducible rfl) ?_ | refine AI_cond_f rfl (by first | assumption | with_reducible rfl) ?_ | refine AS_gy rfl (by first | assumption | with_reducible rfl) ?_ | refine AS_gtn rfl (by first | assumption | with_reducible rfl) ?_ | refine AS_gfn rfl (by first | assumption | with_reducible rfl) ?_ | refine AI_block (AI_loop ?_) | refine AI_block ?_ | refine AI_ret ⟨_, rfl, ?_⟩)
  (first | refine AS_gt rfl ?_ ?_ | refine AS_gf rfl ?_ ?_ | refine AI_cond rfl ?_ ?_) <;> intro hc <;> have hc' := hc <;> try simp only [decide_eq_true_eq, decide_eq_false_iff_not, Bool.not_eq_true', Bool.not_eq_false', Bool.not_eq_true, Bool.not_eq_false, beq_iff_eq, bne_iff_ne, beq_eq_false_iff_ne, bne_eq_false_iff_eq, Int.not_lt, Int.not_le, ge_iff_le, gt_iff_lt, not_and, ne_eq, Decidable.not_not] at hc'
  all_goals
    repeat (first | refine AI_seqk fun K hK => ?_ | refine AI_reg ?_ | ((first | refine wmv rfl ?_ | refine wag rfl ?_ | refine war _ rfl rfl rfl (by omega) (by omega) ?_ | refine wbn rfl rfl rfl ?_ | refine wnt rfl ?_ | refine wex rfl rfl ?_ | refine wpt rfl (by first | assumption | with_reducible rfl) rfl ?_ | refine wpf rfl (by first | assumption | with_reducible rfl) rfl ?_ | refine wpb rfl rfl rfl ?_ | refine wmf rfl ?_ | refine wnc rfl ?_ | refine wbq Try.underlying4 rfl rfl _ (.inr ⟨rfl, rfl⟩) ?_ | refine wbq Try.underlying4 rfl rfl _ (.inl ⟨rfl, rfl⟩) ?_); try dsimp only [st, List.set_cons_zero, List.set_cons_succ]) | ((first | refine AS_nil ?_ | refine AI_skip ?_ | refine AI_exit ?_); try simp only [AThen, ABlk, reduceIte, reduceCtorEq]) | ((first | refine hK _ _ ?_ | ((first | clear hK K | clear IH hK K); refine hK _ _ ?_) | ((first | clear hK K | clear IH hK K); (first | clear hK K | clear IH hK K); refine hK _ _ ?_) | ((first | clear hK K | clear IH hK K); (first | clear hK K | clear IH hK K); (first | clear hK K | clear IH hK K); refine hK _ _ ?_)); try (first | clear hK K | clear IH hK K)) | refine AI_cond_t rfl (by first | assumption | with_reducible rfl) ?_ | refine AI_cond_f rfl (by first | assumption | with_reducible rfl) ?_ | refine AS_gy rfl (by first | assumption | with_reducible rfl) ?_ | refine AS_gtn rfl (by first | assumption | with_reducible rfl) ?_ | refine AS_gfn rfl (by first | assumption | with_reducible rfl) ?_ | refine AI_block (AI_loop ?_) | refine AI_block ?_ | refine AI_ret ⟨_, rfl, ?_⟩)
  · obtain ⟨y, hy, _, _⟩ := drop_at h0 hc'
    refine AS_op (OpR_idx Try.underlying25 sz3 rfl rfl (hR.le hM.le) (fun _ => rfl) h0 hy fun b o hrow => ?_)
    try (dsimp only [st, setL, AV.cells, List.set_cons_zero, List.set_cons_succ, List.drop_zero, List.drop_succ_cons, List.take_zero, List.take_succ_cons, Nat.zero_add, Nat.add_zero, Nat.reduceAdd, List.cons_append, List.nil_append, List.eraseIdx_cons_zero, List.eraseIdx_cons_succ])
    repeat (first | refine AI_seqk fun K hK => ?_ | refine AI_reg ?_ | ((first | refine wmv rfl ?_ | refine wag rfl ?_ | refine war _ rfl rfl rfl (by omega) (by omega) ?_ | refine wbn rfl rfl rfl ?_ | refine wnt rfl ?_ | refine wex rfl rfl ?_ | refine wpt rfl (by first | assumption | with_reducible rfl) rfl ?_ | refine wpf rfl (by first | assumption | with_reducible rfl) rfl ?_ | refine wpb rfl rfl rfl ?_ | refine wmf rfl ?_ | refine wnc rfl ?_ | refine wbq Try.underlying4 rfl rfl _ (.inr ⟨rfl, rfl⟩) ?_ | refine wbq Try.underlying4 rfl rfl _ (.inl ⟨rfl, rfl⟩) ?_); try dsimp only [st, List.set_cons_zero, List.set_cons_succ]) | ((first | refine AS_nil ?_ | refine AI_skip ?_ | refine AI_exit ?_); try simp only [AThen, ABlk, reduceIte, reduceCtorEq]) | ((first | refine hK _ _ ?_ | ((first | clear hK K | clear IH hK K); refine hK _ _ ?_) | ((first | clear hK K | clear IH hK K); (first | clear hK K | clear IH hK K); refine hK _ _ ?_) | ((first | clear hK K | clear IH hK K); (first | clear hK K | clear IH hK K); (first | clear hK K | clear IH hK K); refine hK _ _ ?_)); try (first | clear hK K | clear IH hK K)) | refine AI_cond_t rfl (by first | assumption | with_reducible rfl) ?_ | refine AI_cond_f rfl (by first | assumption | with_reducible rfl) ?_ | refine AS_gy rfl (by first | assumption | with_reducible rfl) ?_ | refine AS_gtn rfl (by first | assumption | with_reducible rfl) ?_ | refine AS_gfn rfl (by first | assumption | with_reducible rfl) ?_ | refine AI_block (AI_loop ?_) | refine AI_block ?_ | refine AI_ret ⟨_, rfl, ?_⟩)
    refine AS_op (OpR_load rfl (loadA_1 ag3 (cell_row hrow)) ?_)
    try (dsimp only [st, setL, AV.cells, List.set_cons_zero, List.set_cons_succ, List.drop_zero, List.drop_succ_cons, List.take_zero, List.take_succ_cons, Nat.zero_add, Nat.add_zero, Nat.reduceAdd, List.cons_append, List.nil_append, List.eraseIdx_cons_zero, List.eraseIdx_cons_succ])
    repeat (first | refine AI_seqk fun K hK => ?_ | refine AI_reg ?_ | ((first | refine wmv rfl ?_ | refine wag rfl ?_ | refine war _ rfl rfl rfl (by omega) (by omega) ?_ | refine wbn rfl rfl rfl ?_ | refine wnt rfl ?_ | refine wex rfl rfl ?_ | refine wpt rfl (by first | assumption | with_reducible rfl) rfl ?_ | refine wpf rfl (by first | assumption | with_reducible rfl) rfl ?_ | refine wpb rfl rfl rfl ?_ | refine wmf rfl ?_ | refine wnc rfl ?_ | refine wbq Try.underlying4 rfl rfl _ (.inr ⟨rfl, rfl⟩) ?_ | refine wbq Try.underlying4 rfl rfl _ (.inl ⟨rfl, rfl⟩) ?_); try dsimp only [st, List.set_cons_zero, List.set_cons_succ]) | ((first | refine AS_nil ?_ | refine AI_skip ?_ | refine AI_exit ?_); try simp only [AThen, ABlk, reduceIte, reduceCtorEq]) | ((first | refine hK _ _ ?_ | ((first | clear hK K | clear IH hK K); refine hK _ _ ?_) | ((first | clear hK K | clear IH hK K); (first | clear hK K | clear IH hK K); refine hK _ _ ?_) | ((first | clear hK K | clear IH hK K); (first | clear hK K | clear IH hK K); (first | clear hK K | clear IH hK K); refine hK _ _ ?_)); try (first | clear hK K | clear IH hK K)) | refine AI_cond_t rfl (by first | assumption | with_reducible rfl) ?_ | refine AI_cond_f rfl (by first | assumption | with_reducible rfl) ?_ | refine AS_gy rfl (by first | assumption | with_reducible rfl) ?_ | refine AS_gtn rfl (by first | assumption | with_reducible rfl) ?_ | refine AS_gfn rfl (by first | assumption | with_reducible rfl) ?_ | refine AI_block (AI_loop ?_) | refine AI_block ?_ | refine AI_ret ⟨_, rfl, ?_⟩)
    refine AS_op (OpR_idxs Try.underlying25 sz3 rfl rfl h0 hc' ?_)
    try (dsimp only [st, setL, AV.cells, List.set_cons_zero, List.set_cons_succ, List.drop_zero, List.drop_succ_cons, List.take_zero, List.take_succ_cons, Nat.zero_add, Nat.add_zero, Nat.reduceAdd, List.cons_append, List.nil_append, List.eraseIdx_cons_zero, List.eraseIdx_cons_succ])
    repeat (first | refine AI_seqk fun K hK => ?_ | refine AI_reg ?_ | ((first | refine wmv rfl ?_ | refine wag rfl ?_ | refine war _ rfl rfl rfl (by omega) (by omega) ?_ | refine wbn rfl rfl rfl ?_ | refine wnt rfl ?_ | refine wex rfl rfl ?_ | refine wpt rfl (by first | assumption | with_reducible rfl) rfl ?_ | refine wpf rfl (by first | assumption | with_reducible rfl) rfl ?_ | refine wpb rfl rfl rfl ?_ | refine wmf rfl ?_ | refine wnc rfl ?_ | refine wbq Try.underlying4 rfl rfl _ (.inr ⟨rfl, rfl⟩) ?_ | refine wbq Try.underlying4 rfl rfl _ (.inl ⟨rfl, rfl⟩) ?_); try dsimp only [st, List.set_cons_zero, List.set_cons_succ]) | ((first | refine AS_nil ?_ | refine AI_skip ?_ | refine AI_exit ?_); try simp only [AThen, ABlk, reduceIte, reduceCtorEq]) | ((first | refine hK _ _ ?_ | ((first | clear hK K | clear IH hK K); refine hK _ _ ?_) | ((first | clear hK K | clear IH hK K); (first | clear hK K | clear IH hK K); refine hK _ _ ?_) | ((first | clear hK K | clear IH hK K); (first | clear hK K | clear IH hK K); (first | clear hK K | clear IH hK K); refine hK _ _ ?_)); try (first | clear hK K | clear IH hK K)) | refine AI_cond_t rfl (by first | assumption | with_reducible rfl) ?_ | refine AI_cond_f rfl (by first | assumption | with_reducible rfl) ?_ | refine AS_gy rfl (by first | assumption | with_reducible rfl) ?_ | refine AS_gtn rfl (by first | assumption | with_reducible rfl) ?_ | refine AS_gfn rfl (by first | assumption | with_reducible rfl) ?_ | refine AI_block (AI_loop ?_) | refine AI_block ?_ | refine AI_ret ⟨_, rfl, ?_⟩)
    refine AS_op (OpR_storeM rfl rfl sz3 enI1 hM (z := y) (i := i.toNat) (by simp; omega) (by omega) rfl rfl fun h2 row _ hM2 => ?_)
    try (dsimp only [st, setL, AV.cells, List.set_cons_zero, List.set_cons_succ, List.drop_zero, List.drop_succ_cons, List.take_zero, List.take_succ_cons, Nat.zero_add, Nat.add_zero, Nat.reduceAdd, List.cons_append, List.nil_append, List.eraseIdx_cons_zero, List.eraseIdx_cons_succ])
    repeat (first | refine AI_seqk fun K hK => ?_ | refine AI_reg ?_ | ((first | refine wmv rfl ?_ | refine wag rfl ?_ | refine war _ rfl rfl rfl (by omega) (by omega) ?_ | refine wbn rfl rfl rfl ?_ | refine wnt rfl ?_ | refine wex rfl rfl ?_ | refine wpt rfl (by first | assumption | with_reducible rfl) rfl ?_ | refine wpf rfl (by first | assumption | with_reducible rfl) rfl ?_ | refine wpb rfl rfl rfl ?_ | refine wmf rfl ?_ | refine wnc rfl ?_ | refine wbq Try.underlying4 rfl rfl _ (.inr ⟨rfl, rfl⟩) ?_ | refine wbq Try.underlying4 rfl rfl _ (.inl ⟨rfl, rfl⟩) ?_); try dsimp only [st, List.set_cons_zero, List.set_cons_succ]) | ((first | refine AS_nil ?_ | refine AI_skip ?_ | refine AI_exit ?_); try simp only [AThen, ABlk, reduceIte, reduceCtorEq]) | ((first | refine hK _ _ ?_ | ((first | clear hK K | clear IH hK K); refine hK _ _ ?_) | ((first | clear hK K | clear IH hK K); (first | clear hK K | clear IH hK K); refine hK _ _ ?_) | ((first | clear hK K | clear IH hK K); (first | clear hK K | clear IH hK K); (first | clear hK K | clear IH hK K); refine hK _ _ ?_)); try (first | clear hK K | clear IH hK K)) | refine AI_cond_t rfl (by first | assumption | with_reducible rfl) ?_ | refine AI_cond_f rfl (by first | assumption | with_reducible rfl) ?_ | refine AS_gy rfl (by first | assumption | with_reducible rfl) ?_ | refine AS_gtn rfl (by first | assumption | with_reducible rfl) ?_ | refine AS_gfn rfl (by first | assumption | with_reducible rfl) ?_ | refine AI_block (AI_loop ?_) | refine AI_block ?_ | refine AI_ret ⟨_, rfl, ?_⟩)
    rw [take_set (by omega) hy] at hM2
    refine IH (n - 1) _ _ (by omega) ⟨i + 1, exJ rfl, by omega, by omega, ?_⟩
    rw [toNat_succ h0]
    exact hM2
  · have e : i.toNat = l.length := by omega
    rw [e] at hM
    simp at hM
    exact hM.own enI1 true rfl

theorem eqIntS_ac (l l' : List Int) (v v' : AV) (h : AH) (hR : Rd h v l) (hR' : Rd h v' l') (hl : l.length ≤ 4611686018427387904) :
    AC Try.prog 27 [v, v'] h (fun r h' => r = .b (decide (l = l')) ∧ h = h') := by
  refine e27 _ _ fun wf => ?_
  unfold c27
  repeat (first | refine AI_seqk fun K hK => ?_ | refine AI_reg ?_ | ((first | refine wmv rfl ?_ | refine wag rfl ?_ | refine war _ rfl rfl rfl (by omega) (by omega) ?_ | refine wbn rfl rfl rfl ?_ | refine wnt rfl ?_ | refine wex rfl rfl ?_ | refine wpt rfl (by first | assumption | with_reducible rfl) rfl ?_ | refine wpf rfl (by first | assumption | with_reducible rfl) rfl ?_ | refine wpb rfl rfl rfl ?_ | refine wmf rfl ?_ | refine wnc rfl ?_ | refine wbq Try.underlying4 rfl rfl _ (.inr ⟨rfl, rfl⟩) ?_ | refine wbq Try.underlying4 rfl rfl _ (.inl ⟨rfl, rfl⟩) ?_); try dsimp only [st, List.set_cons_zero, List.set_cons_succ]) | ((first | refine AS_nil ?_ | refine AI_skip ?_ | refine AI_exit ?_); try simp only [AThen, ABlk, reduceIte, reduceCtorEq]) | ((first | refine hK _ _ ?_ | ((first | clear hK K | clear IH hK K); refine hK _ _ ?_) | ((first | clear hK K | clear IH hK K); (first | clear hK K | clear IH hK K); refine hK _ _ ?_) | ((first | clear hK K | clear IH hK K); (first | clear hK K | clear IH hK K); (first | clear hK K | clear IH hK K); refine hK _ _ ?_)); try (first | clear hK K | clear IH hK K)) | refine AI_cond_t rfl (by first | assumption | with_reducible rfl) ?_ | refine AI_cond_f rfl (by first | assumption | with_reducible rfl) ?_ | refine AS_gy rfl (by first | assumption | with_reducible rfl) ?_ | refine AS_gtn rfl (by first | assumption | with_reducible rfl) ?_ | refine AS_gfn rfl (by first | assumption | with_reducible rfl) ?_ | refine AI_block (AI_loop ?_) | refine AI_block ?_ | refine AI_ret ⟨_, rfl, ?_⟩)
  refine AS_op (OpR_lenA Try.underlying25 rfl hR.len ?_)
  try (dsimp only [st, setL, AV.cells, List.set_cons_zero, List.set_cons_succ, List.drop_zero, List.drop_succ_cons, List.take_zero, List.take_succ_cons, Nat.zero_add, Nat.add_zero, Nat.reduceAdd, List.cons_append, List.nil_append, List.eraseIdx_cons_zero, List.eraseIdx_cons_succ])
  repeat (first | refine AI_seqk fun K hK => ?_ | refine AI_reg ?_ | ((first | refine wmv rfl ?_ | refine wag rfl ?_ | refine war _ rfl rfl rfl (by omega) (by omega) ?_ | refine wbn rfl rfl rfl ?_ | refine wnt rfl ?_ | refine wex rfl rfl ?_ | refine wpt rfl (by first | assumption | with_reducible rfl) rfl ?_ | refine wpf rfl (by first | assumption | with_reducible rfl) rfl ?_ | refine wpb rfl rfl rfl ?_ | refine wmf rfl ?_ | refine wnc rfl ?_ | refine wbq Try.underlying4 rfl rfl _ (.inr ⟨rfl, rfl⟩) ?_ | refine wbq Try.underlying4 rfl rfl _ (.inl ⟨rfl, rfl⟩) ?_); try dsimp only [st, List.set_cons_zero, List.set_cons_succ]) | ((first | refine AS_nil ?_ | refine AI_skip ?_ | refine AI_exit ?_); try simp only [AThen, ABlk, reduceIte, reduceCtorEq]) | ((first | refine hK _ _ ?_ | ((first | clear hK K | clear IH hK K); refine hK _ _ ?_) | ((first | clear hK K | clear IH hK K); (first | clear hK K | clear IH hK K); refine hK _ _ ?_) | ((first | clear hK K | clear IH hK K); (first | clear hK K | clear IH hK K); (first | clear hK K | clear IH hK K); refine hK _ _ ?_)); try (first | clear hK K | clear IH hK K)) | refine AI_cond_t rfl (by first | assumption | with_reducible rfl) ?_ | refine AI_cond_f rfl (by first | assumption | with_reducible rfl) ?_ | refine AS_gy rfl (by first | assumption | with_reducible rfl) ?_ | refine AS_gtn rfl (by first | assumption | with_reducible rfl) ?_ | refine AS_gfn rfl (by first | assumption | with_reducible rfl) ?_ | refine AI_block (AI_loop ?_) | refine AI_block ?_ | refine AI_ret ⟨_, rfl, ?_⟩)
  refine AS_op (OpR_lenA Try.underlying25 rfl hR'.len ?_)
  try (dsimp only [st, setL, AV.cells, List.set_cons_zero, List.set_cons_succ, List.drop_zero, List.drop_succ_cons, List.take_zero, List.take_succ_cons, Nat.zero_add, Nat.add_zero, Nat.reduceAdd, List.cons_append, List.nil_append, List.eraseIdx_cons_zero, List.eraseIdx_cons_succ])
  repeat (first | refine AI_seqk fun K hK => ?_ | refine AI_reg ?_ | ((first | refine wmv rfl ?_ | refine wag rfl ?_ | refine war _ rfl rfl rfl (by omega) (by omega) ?_ | refine wbn rfl rfl rfl ?_ | refine wnt rfl ?_ | refine wex rfl rfl ?_ | refine wpt rfl (by first | assumption | with_reducible rfl) rfl ?_ | refine wpf rfl (by first | assumption | with_reducible rfl) rfl ?_ | refine wpb rfl rfl rfl ?_ | refine wmf rfl ?_ | refine wnc rfl ?_ | refine wbq Try.underlying4 rfl rfl _ (.inr ⟨rfl, rfl⟩) ?_ | refine wbq Try.underlying4 rfl rfl _ (.inl ⟨rfl, rfl⟩) ?_); try dsimp only [st, List.set_cons_zero, List.set_cons_succ]) | ((first | refine AS_nil ?_ | refine AI_skip ?_ | refine AI_exit ?_); try simp only [AThen, ABlk, reduceIte, reduceCtorEq]) | ((first | refine hK _ _ ?_ | ((first | clear hK K | clear IH hK K); refine hK _ _ ?_) | ((first | clear hK K | clear IH hK K); (first | clear hK K | clear IH hK K); refine hK _ _ ?_) | ((first | clear hK K | clear IH hK K); (first | clear hK K | clear IH hK K); (first | clear hK K | clear IH hK K); refine hK _ _ ?_)); try (first | clear hK K | clear IH hK K)) | refine AI_cond_t rfl (by first | assumption | with_reducible rfl) ?_ | refine AI_cond_f rfl (by first | assumption | with_reducible rfl) ?_ | refine AS_gy rfl (by first | assumption | with_reducible rfl) ?_ | refine AS_gtn rfl (by first | assumption | with_reducible rfl) ?_ | refine AS_gfn rfl (by first | assumption | with_reducible rfl) ?_ | refine AI_block (AI_loop ?_) | refine AI_block ?_ | refine AI_ret ⟨_, rfl, ?_⟩)
  (first | refine AS_gt rfl ?_ ?_ | refine AS_gf rfl ?_ ?_ | refine AI_cond rfl ?_ ?_) <;> intro hc <;> have hc' := hc <;> try simp only [decide_eq_true_eq, decide_eq_false_iff_not, Bool.not_eq_true', Bool.not_eq_false', Bool.not_eq_true, Bool.not_eq_false, beq_iff_eq, bne_iff_ne, beq_eq_false_iff_ne, bne_eq_false_iff_eq, Int.not_lt, Int.not_le, ge_iff_le, gt_iff_lt, not_and, ne_eq, Decidable.not_not] at hc'
  all_goals
    repeat (first | refine AI_seqk fun K hK => ?_ | refine AI_reg ?_ | ((first | refine wmv rfl ?_ | refine wag rfl ?_ | refine war _ rfl rfl rfl (by omega) (by omega) ?_ | refine wbn rfl rfl rfl ?_ | refine wnt rfl ?_ | refine wex rfl rfl ?_ | refine wpt rfl (by first | assumption | with_reducible rfl) rfl ?_ | refine wpf rfl (by first | assumption | with_reducible rfl) rfl ?_ | refine wpb rfl rfl rfl ?_ | refine wmf rfl ?_ | refine wnc rfl ?_ | refine wbq Try.underlying4 rfl rfl _ (.inr ⟨rfl, rfl⟩) ?_ | refine wbq Try.underlying4 rfl rfl _ (.inl ⟨rfl, rfl⟩) ?_); try dsimp only [st, List.set_cons_zero, List.set_cons_succ]) | ((first | refine AS_nil ?_ | refine AI_skip ?_ | refine AI_exit ?_); try simp only [AThen, ABlk, reduceIte, reduceCtorEq]) | ((first | refine hK _ _ ?_ | ((first | clear hK K | clear IH hK K); refine hK _ _ ?_) | ((first | clear hK K | clear IH hK K); (first | clear hK K | clear IH hK K); refine hK _ _ ?_) | ((first | clear hK K | clear IH hK K); (first | clear hK K | clear IH hK K); (first | clear hK K | clear IH hK K); refine hK _ _ ?_)); try (first | clear hK K | clear IH hK K)) | refine AI_cond_t rfl (by first | assumption | with_reducible rfl) ?_ | refine AI_cond_f rfl (by first | assumption | with_reducible rfl) ?_ | refine AS_gy rfl (by first | assumption | with_reducible rfl) ?_ | refine AS_gtn rfl (by first | assumption | with_reducible rfl) ?_ | refine AS_gfn rfl (by first | assumption | with_reducible rfl) ?_ | refine AI_block (AI_loop ?_) | refine AI_block ?_ | refine AI_ret ⟨_, rfl, ?_⟩)
  · refine ⟨?_, rfl⟩
    simp only [oneA, AV.b.injEq]
    symm
    simp
    intro e
    subst e
    exact hc' rfl
  · have hlen : l.length = l'.length := by omega
    refine AIL_ind (fun (n : Nat) a h' => ∃ (i : Int), (∃ r : Nat → AV, a = [v, v', un, un, .b false, .i .i64 i, r 6, r 7, r 8, r 9, r 10, r 11, r 12, r 13, r 14, r 15, r 16, r 17, r 18, r 19, r 20, r 21, r 22, r 23, r 24, r 25]) ∧ 0 ≤ i ∧ i + n = l.length ∧ h = h' ∧ l.take i.toNat = l'.take i.toNat)
      ?_ l.length _ _ ⟨0, exJ rfl, by omega, by omega, rfl, by simp⟩
    rintro n a h' ⟨i, ⟨r, rfl⟩, h0, hn, rfl, heq⟩ IH
    repeat (first | refine AI_seqk fun K hK => ?_ | refine AI_reg ?_ | ((first | refine wmv rfl ?_ | refine wag rfl ?_ | refine war _ rfl rfl rfl (by omega) (by omega) ?_ | refine wbn rfl rfl rfl ?_ | refine wnt rfl ?_ | refine wex rfl rfl ?_ | refine wpt rfl (by first | assumption | with_reducible rfl) rfl ?_ | refine wpf rfl (by first | assumption | with_reducible rfl) rfl ?_ | refine wpb rfl rfl rfl ?_ | refine wmf rfl ?_ | refine wnc rfl ?_ | refine wbq Try.underlying4 rfl rfl _ (.inr ⟨rfl, rfl⟩) ?_ | refine wbq Try.underlying4 rfl rfl _ (.inl ⟨rfl, rfl⟩) ?_); try dsimp only [st, List.set_cons_zero, List.set_cons_succ]) | ((first | refine AS_nil ?_ | refine AI_skip ?_ | refine AI_exit ?_); try simp only [AThen, ABlk, reduceIte, reduceCtorEq]) | ((first | refine hK _ _ ?_ | ((first | clear hK K | clear IH hK K); refine hK _ _ ?_) | ((first | clear hK K | clear IH hK K); (first | clear hK K | clear IH hK K); refine hK _ _ ?_) | ((first | clear hK K | clear IH hK K); (first | clear hK K | clear IH hK K); (first | clear hK K | clear IH hK K); refine hK _ _ ?_)); try (first | clear hK K | clear IH hK K)) | refine AI_cond_t rfl (by first | assumption | with_reducible rfl) ?_ | refine AI_cond_f rfl (by first | assumption | with_reducible rfl) ?_ | refine AS_gy rfl (by first | assumption | with_reducible rfl) ?_ | refine AS_gtn rfl (by first | assumption | with_reducible rfl) ?_ | refine AS_gfn rfl (by first | assumption | with_reducible rfl) ?_ | refine AI_block (AI_loop ?_) | refine AI_block ?_ | refine AI_ret ⟨_, rfl, ?_⟩)
    refine AS_op (OpR_lenA Try.underlying25 rfl hR.len ?_)
    try (dsimp only [st, setL, AV.cells, List.set_cons_zero, List.set_cons_succ, List.drop_zero, List.drop_succ_cons, List.take_zero, List.take_succ_cons, Nat.zero_add, Nat.add_zero, Nat.reduceAdd, List.cons_append, List.nil_append, List.eraseIdx_cons_zero, List.eraseIdx_cons_succ])
    repeat (first | refine AI_seqk fun K hK => ?_ | refine AI_reg ?_ | ((first | refine wmv rfl ?_ | refine wag rfl ?_ | refine war _ rfl rfl rfl (by omega) (by omega) ?_ | refine wbn rfl rfl rfl ?_ | refine wnt rfl ?_ | refine wex rfl rfl ?_ | refine wpt rfl (by first | assumption | with_reducible rfl) rfl ?_ | refine wpf rfl (by first | assumption | with_reducible rfl) rfl ?_ | refine wpb rfl rfl rfl ?_ | refine wmf rfl ?_ | refine wnc rfl ?_ | refine wbq Try.underlying4 rfl rfl _ (.inr ⟨rfl, rfl⟩) ?_ | refine wbq Try.underlying4 rfl rfl _ (.inl ⟨rfl, rfl⟩) ?_); try dsimp only [st, List.set_cons_zero, List.set_cons_succ]) | ((first | refine AS_nil ?_ | refine AI_skip ?_ | refine AI_exit ?_); try simp only [AThen, ABlk, reduceIte, reduceCtorEq]) | ((first | refine hK _ _ ?_ | ((first | clear hK K | clear IH hK K); refine hK _ _ ?_) | ((first | clear hK K | clear IH hK K); (first | clear hK K | clear IH hK K); refine hK _ _ ?_) | ((first | clear hK K | clear IH hK K); (first | clear hK K | clear IH hK K); (first | clear hK K | clear IH hK K); refine hK _ _ ?_)); try (first | clear hK K | clear IH hK K)) | refine AI_cond_t rfl (by first | assumption | with_reducible rfl) ?_ | refine AI_cond_f rfl (by first | assumption | with_reducible rfl) ?_ | refine AS_gy rfl (by first | assumption | with_reducible rfl) ?_ | refine AS_gtn rfl (by first | assumption | with_reducible rfl) ?_ | refine AS_gfn rfl (by first | assumption | with_reducible rfl) ?_ | refine AI_block (AI_loop ?_) | refine AI_block ?_ | refine AI_ret ⟨_, rfl, ?_⟩)
    (first | refine AS_gt rfl ?_ ?_ | refine AS_gf rfl ?_ ?_ | refine AI_cond rfl ?_ ?_) <;> intro hc <;> have hc' := hc <;> try simp only [decide_eq_true_eq, decide_eq_false_iff_not, Bool.not_eq_true', Bool.not_eq_false', Bool.not_eq_true, Bool.not_eq_false, beq_iff_eq, bne_iff_ne, beq_eq_false_iff_ne, bne_eq_false_iff_eq, Int.not_lt, Int.not_le, ge_iff_le, gt_iff_lt, not_and, ne_eq, Decidable.not_not] at hc'
    all_goals
      repeat (first | refine AI_seqk fun K hK => ?_ | refine AI_reg ?_ | ((first | refine wmv rfl ?_ | refine wag rfl ?_ | refine war _ rfl rfl rfl (by omega) (by omega) ?_ | refine wbn rfl rfl rfl ?_ | refine wnt rfl ?_ | refine wex rfl rfl ?_ | refine wpt rfl (by first | assumption | with_reducible rfl) rfl ?_ | refine wpf rfl (by first | assumption | with_reducible rfl) rfl ?_ | refine wpb rfl rfl rfl ?_ | refine wmf rfl ?_ | refine wnc rfl ?_ | refine wbq Try.underlying4 rfl rfl _ (.inr ⟨rfl, rfl⟩) ?_ | refine wbq Try.underlying4 rfl rfl _ (.inl ⟨rfl, rfl⟩) ?_); try dsimp only [st, List.set_cons_zero, List.set_cons_succ]) | ((first | refine AS_nil ?_ | refine AI_skip ?_ | refine AI_exit ?_); try simp only [AThen, ABlk, reduceIte, reduceCtorEq]) | ((first | refine hK _ _ ?_ | ((first | clear hK K | clear IH hK K); refine hK _ _ ?_) | ((first | clear hK K | clear IH hK K); (first | clear hK K | clear IH hK K); refine hK _ _ ?_) | ((first | clear hK K | clear IH hK K); (first | clear hK K | clear IH hK K); (first | clear hK K | clear IH hK K); refine hK _ _ ?_)); try (first | clear hK K | clear IH hK K)) | refine AI_cond_t rfl (by first | assumption | with_reducible rfl) ?_ | refine AI_cond_f rfl (by first | assumption | with_reducible rfl) ?_ | refine AS_gy rfl (by first | assumption | with_reducible rfl) ?_ | refine AS_gtn rfl (by first | assumption | with_reducible rfl) ?_ | refine AS_gfn rfl (by first | assumption | with_reducible rfl) ?_ | refine AI_block (AI_loop ?_) | refine AI_block ?_ | refine AI_ret ⟨_, rfl, ?_⟩)
    · obtain ⟨y, hy, _, _⟩ := drop_at h0 hc'
      obtain ⟨y', hy', _, _⟩ := drop_at (l := l') h0 (by omega)
      refine dr27_0 0 ?_
      repeat (first | ((first | refine AX_v (OpV_move rfl) ?_ | refine AX_v (OpV_assign rfl) ?_ | refine AX_v (OpV_arith _ rfl rfl rfl (by omega) (by omega)) ?_ | refine AX_v (OpV_bin rfl rfl rfl) ?_ | refine AX_v (OpV_not rfl) ?_ | refine AX_v (OpV_extract rfl rfl) ?_ | refine AX_v (OpV_nilCheck rfl) ?_); try dsimp only [st, List.set_cons_zero, List.set_cons_succ]) | (refine AX_nil ?_; try simp only [AThen, ABlk, reduceIte, reduceCtorEq]))
      refine AX_idx Try.underlying25 sz3 rfl rfl hR (fun _ => rfl) h0 hy fun b o hrow => ?_
      try (dsimp only [st, setL, AV.cells, List.set_cons_zero, List.set_cons_succ, List.drop_zero, List.drop_succ_cons, List.take_zero, List.take_succ_cons, Nat.zero_add, Nat.add_zero, Nat.reduceAdd, List.cons_append, List.nil_append, List.eraseIdx_cons_zero, List.eraseIdx_cons_succ])
      repeat (first | ((first | refine AX_v (OpV_move rfl) ?_ | refine AX_v (OpV_assign rfl) ?_ | refine AX_v (OpV_arith _ rfl rfl rfl (by omega) (by omega)) ?_ | refine AX_v (OpV_bin rfl rfl rfl) ?_ | refine AX_v (OpV_not rfl) ?_ | refine AX_v (OpV_extract rfl rfl) ?_ | refine AX_v (OpV_nilCheck rfl) ?_); try dsimp only [st, List.set_cons_zero, List.set_cons_succ]) | (refine AX_nil ?_; try simp only [AThen, ABlk, reduceIte, reduceCtorEq]))
      refine AX_f (OpF_load rfl (loadA_1 ag3 (cell_row hrow)) (by first | (intro e; cases e; done) | (intro _; rfl) | simp [det, detS])) ?_
      try (dsimp only [st, setL, AV.cells, List.set_cons_zero, List.set_cons_succ, List.drop_zero, List.drop_succ_cons, List.take_zero, List.take_succ_cons, Nat.zero_add, Nat.add_zero, Nat.reduceAdd, List.cons_append, List.nil_append, List.eraseIdx_cons_zero, List.eraseIdx_cons_succ])
      repeat (first | ((first | refine AX_v (OpV_move rfl) ?_ | refine AX_v (OpV_assign rfl) ?_ | refine AX_v (OpV_arith _ rfl rfl rfl (by omega) (by omega)) ?_ | refine AX_v (OpV_bin rfl rfl rfl) ?_ | refine AX_v (OpV_not rfl) ?_ | refine AX_v (OpV_extract rfl rfl) ?_ | refine AX_v (OpV_nilCheck rfl) ?_); try dsimp only [st, List.set_cons_zero, List.set_cons_succ]) | (refine AX_nil ?_; try simp only [AThen, ABlk, reduceIte, reduceCtorEq]))
      refine AX_idx Try.underlying25 sz3 rfl rfl hR' (fun _ => rfl) h0 hy' fun b o hrow => ?_
      try (dsimp only [st, setL, AV.cells, List.set_cons_zero, List.set_cons_succ, List.drop_zero, List.drop_succ_cons, List.take_zero, List.take_succ_cons, Nat.zero_add, Nat.add_zero, Nat.reduceAdd, List.cons_append, List.nil_append, List.eraseIdx_cons_zero, List.eraseIdx_cons_succ])
      repeat (first | ((first | refine AX_v (OpV_move rfl) ?_ | refine AX_v (OpV_assign rfl) ?_ | refine AX_v (OpV_arith _ rfl rfl rfl (by omega) (by omega)) ?_ | refine AX_v (OpV_bin rfl rfl rfl) ?_ | refine AX_v (OpV_not rfl) ?_ | refine AX_v (OpV_extract rfl rfl) ?_ | refine AX_v (OpV_nilCheck rfl) ?_); try dsimp only [st, List.set_cons_zero, List.set_cons_succ]) | (refine AX_nil ?_; try simp only [AThen, ABlk, reduceIte, reduceCtorEq]))
      refine AX_f (OpF_load rfl (loadA_1 ag3 (cell_row hrow)) (by first | (intro e; cases e; done) | (intro _; rfl) | simp [det, detS])) ?_
      try (dsimp only [st, setL, AV.cells, List.set_cons_zero, List.set_cons_succ, List.drop_zero, List.drop_succ_cons, List.take_zero, List.take_succ_cons, Nat.zero_add, Nat.add_zero, Nat.reduceAdd, List.cons_append, List.nil_append, List.eraseIdx_cons_zero, List.eraseIdx_cons_succ])
      repeat (first | ((first | refine AX_v (OpV_move rfl) ?_ | refine AX_v (OpV_assign rfl) ?_ | refine AX_v (OpV_arith _ rfl rfl rfl (by omega) (by omega)) ?_ | refine AX_v (OpV_bin rfl rfl rfl) ?_ | refine AX_v (OpV_not rfl) ?_ | refine AX_v (OpV_extract rfl rfl) ?_ | refine AX_v (OpV_nilCheck rfl) ?_); try dsimp only [st, List.set_cons_zero, List.set_cons_succ]) | (refine AX_nil ?_; try simp only [AThen, ABlk, reduceIte, reduceCtorEq]))
      repeat (first | refine AI_seqk fun K hK => ?_ | refine AI_reg ?_ | ((first | refine wmv rfl ?_ | refine wag rfl ?_ | refine war _ rfl rfl rfl (by omega) (by omega) ?_ | refine wbn rfl rfl rfl ?_ | refine wnt rfl ?_ | refine wex rfl rfl ?_ | refine wpt rfl (by first | assumption | with_reducible rfl) rfl ?_ | refine wpf rfl (by first | assumption | with_reducible rfl) rfl ?_ | refine wpb rfl rfl rfl ?_ | refine wmf rfl ?_ | refine wnc rfl ?_ | refine wbq Try.underlying4 rfl rfl _ (.inr ⟨rfl, rfl⟩) ?_ | refine wbq Try.underlying4 rfl rfl _ (.inl ⟨rfl, rfl⟩) ?_); try dsimp only [st, List.set_cons_zero, List.set_cons_succ]) | ((first | refine AS_nil ?_ | refine AI_skip ?_ | refine AI_exit ?_); try simp only [AThen, ABlk, reduceIte, reduceCtorEq]) | ((first | refine hK _ _ ?_ | ((first | clear hK K | clear IH hK K); refine hK _ _ ?_) | ((first | clear hK K | clear IH hK K); (first | clear hK K | clear IH hK K); refine hK _ _ ?_) | ((first | clear hK K | clear IH hK K); (first | clear hK K | clear IH hK K); (first | clear hK K | clear IH hK K); refine hK _ _ ?_)); try (first | clear hK K | clear IH hK K)) | refine AI_cond_t rfl (by first | assumption | with_reducible rfl) ?_ | refine AI_cond_f rfl (by first | assumption | with_reducible rfl) ?_ | refine AS_gy rfl (by first | assumption | with_reducible rfl) ?_ | refine AS_gtn rfl (by first | assumption | with_reducible rfl) ?_ | refine AS_gfn rfl (by first | assumption | with_reducible rfl) ?_ | refine AI_block (AI_loop ?_) | refine AI_block ?_ | refine AI_ret ⟨_, rfl, ?_⟩)
      (first | refine AS_gt rfl ?_ ?_ | refine AS_gf rfl ?_ ?_ | refine AI_cond rfl ?_ ?_) <;> intro hc <;> have hc' := hc <;> try simp only [decide_eq_true_eq, decide_eq_false_iff_not, Bool.not_eq_true', Bool.not_eq_false', Bool.not_eq_true, Bool.not_eq_false, beq_iff_eq, bne_iff_ne, beq_eq_false_iff_ne, bne_eq_false_iff_eq, Int.not_lt, Int.not_le, ge_iff_le, gt_iff_lt, not_and, ne_eq, Decidable.not_not] at hc'
      all_goals
        repeat (first | refine AI_seqk fun K hK => ?_ | refine AI_reg ?_ | ((first | refine wmv rfl ?_ | refine wag rfl ?_ | refine war _ rfl rfl rfl (by omega) (by omega) ?_ | refine wbn rfl rfl rfl ?_ | refine wnt rfl ?_ | refine wex rfl rfl ?_ | refine wpt rfl (by first | assumption | with_reducible rfl) rfl ?_ | refine wpf rfl (by first | assumption | with_reducible rfl) rfl ?_ | refine wpb rfl rfl rfl ?_ | refine wmf rfl ?_ | refine wnc rfl ?_ | refine wbq Try.underlying4 rfl rfl _ (.inr ⟨rfl, rfl⟩) ?_ | refine wbq Try.underlying4 rfl rfl _ (.inl ⟨rfl, rfl⟩) ?_); try dsimp only [st, List.set_cons_zero, List.set_cons_succ]) | ((first | refine AS_nil ?_ | refine AI_skip ?_ | refine AI_exit ?_); try simp only [AThen, ABlk, reduceIte, reduceCtorEq]) | ((first | refine hK _ _ ?_ | ((first | clear hK K | clear IH hK K); refine hK _ _ ?_) | ((first | clear hK K | clear IH hK K); (first | clear hK K | clear IH hK K); refine hK _ _ ?_) | ((first | clear hK K | clear IH hK K); (first | clear hK K | clear IH hK K); (first | clear hK K | clear IH hK K); refine hK _ _ ?_)); try (first | clear hK K | clear IH hK K)) | refine AI_cond_t rfl (by first | assumption | with_reducible rfl) ?_ | refine AI_cond_f rfl (by first | assumption | with_reducible rfl) ?_ | refine AS_gy rfl (by first | assumption | with_reducible rfl) ?_ | refine AS_gtn rfl (by first | assumption | with_reducible rfl) ?_ | refine AS_gfn rfl (by first | assumption | with_reducible rfl) ?_ | refine AI_block (AI_loop ?_) | refine AI_block ?_ | refine AI_ret ⟨_, rfl, ?_⟩)
      · refine ⟨?_, rfl⟩
        simp only [oneA, AV.b.injEq]
        symm
        simp
        intro e
        exact hc' (Option.some.inj (by rw [← hy, ← hy', e]))
      · refine IH (n - 1) _ _ (by omega) ⟨i + 1, exJ rfl, by omega, by omega, rfl, ?_⟩
        rw [toNat_succ h0, List.take_add_one, List.take_add_one, heq, hy, hy', hc']
    · refine ⟨?_, rfl⟩
      have e : i.toNat = l.length := by omega
      rw [e] at heq
      rw [List.take_length, hlen, List.take_length] at heq
      simp [oneA, heq]

theorem l1All_ac (l : List Int) (v : AV) (lo hi : Int) (h : AH) (hR : Rd h v l) (hl : l.length ≤ 4611686018427387904) :
    AC Try.prog 81 [v, .i .i64 lo, .i .i64 hi] h (fun r h' => r = .b (l.all fun x => decide (lo ≤ x ∧ x ≤ hi)) ∧ h = h') := by
  refine e81 _ _ _ fun wf => ?_
  unfold c81
  repeat (first | refine AI_seqk fun K hK => ?_ | refine AI_reg ?_ | ((first | refine wmv rfl ?_ | refine wag rfl ?_ | refine war _ rfl rfl rfl (by omega) (by omega) ?_ | refine wbn rfl rfl rfl ?_ | refine wnt rfl ?_ | refine wex rfl rfl ?_ | refine wpt rfl (by first | assumption | with_reducible rfl) rfl ?_ | refine wpf rfl (by first | assumption | with_reducible rfl) rfl ?_ | refine wpb rfl rfl rfl ?_ | refine wmf rfl ?_ | refine wnc rfl ?_ | refine wbq Try.underlying4 rfl rfl _ (.inr ⟨rfl, rfl⟩) ?_ | refine wbq Try.underlying4 rfl rfl _ (.inl ⟨rfl, rfl⟩) ?_); try dsimp only [st, List.set_cons_zero, List.set_cons_succ]) | ((first | refine AS_nil ?_ | refine AI_skip ?_ | refine AI_exit ?_); try simp only [AThen, ABlk, reduceIte, reduceCtorEq]) | ((first | refine hK _ _ ?_ | ((first | clear hK K | clear IH hK K); refine hK _ _ ?_) | ((first | clear hK K | clear IH hK K); (first | clear hK K | clear IH hK K); refine hK _ _ ?_) | ((first | clear hK K | clear IH hK K); (first | clear hK K | clear IH hK K); (first | clear hK K | clear IH hK K); refine hK _ _ ?_)); try (first | clear hK K | clear IH hK K)) | refine AI_cond_t rfl (by first | assumption | with_reducible rfl) ?_ | refine AI_cond_f rfl (by first | assumption | with_reducible rfl) ?_ | refine AS_gy rfl (by first | assumption | with_reducible rfl) ?_ | refine AS_gtn rfl (by first | assumption | with_reducible rfl) ?_ | refine AS_gfn rfl (by first | assumption | with_reducible rfl) ?_ | refine AI_block (AI_loop ?_) | refine AI_block ?_ | refine AI_ret ⟨_, rfl, ?_⟩)
  refine AS_op (OpR_lenA Try.underlying25 rfl hR.len ?_)
  try (dsimp only [st, setL, AV.cells, List.set_cons_zero, List.set_cons_succ, List.drop_zero, List.drop_succ_cons, List.take_zero, List.take_succ_cons, Nat.zero_add, Nat.add_zero, Nat.reduceAdd, List.cons_append, List.nil_append, List.eraseIdx_cons_zero, List.eraseIdx_cons_succ])
  repeat (first | refine AI_seqk fun K hK => ?_ | refine AI_reg ?_ | ((first | refine wmv rfl ?_ | refine wag rfl ?_ | refine war _ rfl rfl rfl (by omega) (by omega) ?_ | refine wbn rfl rfl rfl ?_ | refine wnt rfl ?_ | refine wex rfl rfl ?_ | refine wpt rfl (by first | assumption | with_reducible rfl) rfl ?_ | refine wpf rfl (by first | assumption | with_reducible rfl) rfl ?_ | refine wpb rfl rfl rfl ?_ | refine wmf rfl ?_ | refine wnc rfl ?_ | refine wbq Try.underlying4 rfl rfl _ (.inr ⟨rfl, rfl⟩) ?_ | refine wbq Try.underlying4 rfl rfl _ (.inl ⟨rfl, rfl⟩) ?_); try dsimp only [st, List.set_cons_zero, List.set_cons_succ]) | ((first | refine AS_nil ?_ | refine AI_skip ?_ | refine AI_exit ?_); try simp only [AThen, ABlk, reduceIte, reduceCtorEq]) | ((first | refine hK _ _ ?_ | ((first | clear hK K | clear IH hK K); refine hK _ _ ?_) | ((first | clear hK K | clear IH hK K); (first | clear hK K | clear IH hK K); refine hK _ _ ?_) | ((first | clear hK K | clear IH hK K); (first | clear hK K | clear IH hK K); (first | clear hK K | clear IH hK K); refine hK _ _ ?_)); try (first | clear hK K | clear IH hK K)) | refine AI_cond_t rfl (by first | assumption | with_reducible rfl) ?_ | refine AI_cond_f rfl (by first | assumption | with_reducible rfl) ?_ | refine AS_gy rfl (by first | assumption | with_reducible rfl) ?_ | refine AS_gtn rfl (by first | assumption | with_reducible rfl) ?_ | refine AS_gfn rfl (by first | assumption | with_reducible rfl) ?_ | refine AI_block (AI_loop ?_) | refine AI_block ?_ | refine AI_ret ⟨_, rfl, ?_⟩)
  refine AIL_ind (fun (n : Nat) a h' => ∃ (i : Int) (x8 : AV), (∃ r : Nat → AV, a = [v, .i .i64 lo, .i .i64 hi, un, un, un, .b false, un, x8, v, .i .i64 l.length, .i .i64 i, r 12, r 13, r 14, r 15, r 16, r 17, r 18, r 19, r 20]) ∧ 0 ≤ i ∧ i + n = l.length ∧ h = h' ∧
      l.all (fun x => decide (lo ≤ x ∧ x ≤ hi)) = (l.drop i.toNat).all fun x => decide (lo ≤ x ∧ x ≤ hi))
    ?_ l.length _ _ ⟨0, _, exJ rfl, by omega, by omega, rfl, rfl⟩
  rintro n a h' ⟨i, x8, ⟨r, rfl⟩, h0, hn, rfl, heq⟩ IH
  repeat (first | refine AI_seqk fun K hK => ?_ | refine AI_reg ?_ | ((first | refine wmv rfl ?_ | refine wag rfl ?_ | refine war _ rfl rfl rfl (by omega) (by omega) ?_ | refine wbn rfl rfl rfl ?_ | refine wnt rfl ?_ | refine wex rfl rfl ?_ | refine wpt rfl (by first | assumption | with_reducible rfl) rfl ?_ | refine wpf rfl (by first | assumption | with_reducible rfl) rfl ?_ | refine wpb rfl rfl rfl ?_ | refine wmf rfl ?_ | refine wnc rfl ?_ | refine wbq Try.underlying4 rfl rfl _ (.inr ⟨rfl, rfl⟩) ?_ | refine wbq Try.underlying4 rfl rfl _ (.inl ⟨rfl, rfl⟩) ?_); try dsimp only [st, List.set_cons_zero, List.set_cons_succ]) | ((first | refine AS_nil ?_ | refine AI_skip ?_ | refine AI_exit ?_); try simp only [AThen, ABlk, reduceIte, reduceCtorEq]) | ((first | refine hK _ _ ?_ | ((first | clear hK K | clear IH hK K); refine hK _ _ ?_) | ((first | clear hK K | clear IH hK K); (first | clear hK K | clear IH hK K); refine hK _ _ ?_) | ((first | clear hK K | clear IH hK K); (first | clear hK K | clear IH hK K); (first | clear hK K | clear IH hK K); refine hK _ _ ?_)); try (first | clear hK K | clear IH hK K)) | refine AI_cond_t rfl (by first | assumption | with_reducible rfl) ?_ | refine AI_cond_f rfl (by first | assumption | with_reducible rfl) ?_ | refine AS_gy rfl (by first | assumption | with_reducible rfl) ?_ | refine AS_gtn rfl (by first | assumption | with_reducible rfl) ?_ | refine AS_gfn rfl (by first | assumption | with_reducible rfl) ?_ | refine AI_block (AI_loop ?_) | refine AI_block ?_ | refine AI_ret ⟨_, rfl, ?_⟩)
  (first | refine AS_gt rfl ?_ ?_ | refine AS_gf rfl ?_ ?_ | refine AI_cond rfl ?_ ?_) <;> intro hc <;> have hc' := hc <;> try simp only [decide_eq_true_eq, decide_eq_false_iff_not, Bool.not_eq_true', Bool.not_eq_false', Bool.not_eq_true, Bool.not_eq_false, beq_iff_eq, bne_iff_ne, beq_eq_false_iff_ne, bne_eq_false_iff_eq, Int.not_lt, Int.not_le, ge_iff_le, gt_iff_lt, not_and, ne_eq, Decidable.not_not] at hc'
  all_goals
    repeat (first | refine AI_seqk fun K hK => ?_ | refine AI_reg ?_ | ((first | refine wmv rfl ?_ | refine wag rfl ?_ | refine war _ rfl rfl rfl (by omega) (by omega) ?_ | refine wbn rfl rfl rfl ?_ | refine wnt rfl ?_ | refine wex rfl rfl ?_ | refine wpt rfl (by first | assumption | with_reducible rfl) rfl ?_ | refine wpf rfl (by first | assumption | with_reducible rfl) rfl ?_ | refine wpb rfl rfl rfl ?_ | refine wmf rfl ?_ | refine wnc rfl ?_ | refine wbq Try.underlying4 rfl rfl _ (.inr ⟨rfl, rfl⟩) ?_ | refine wbq Try.underlying4 rfl rfl _ (.inl ⟨rfl, rfl⟩) ?_); try dsimp only [st, List.set_cons_zero, List.set_cons_succ]) | ((first | refine AS_nil ?_ | refine AI_skip ?_ | refine AI_exit ?_); try simp only [AThen, ABlk, reduceIte, reduceCtorEq]) | ((first | refine hK _ _ ?_ | ((first | clear hK K | clear IH hK K); refine hK _ _ ?_) | ((first | clear hK K | clear IH hK K); (first | clear hK K | clear IH hK K); refine hK _ _ ?_) | ((first | clear hK K | clear IH hK K); (first | clear hK K | clear IH hK K); (first | clear hK K | clear IH hK K); refine hK _ _ ?_)); try (first | clear hK K | clear IH hK K)) | refine AI_cond_t rfl (by first | assumption | with_reducible rfl) ?_ | refine AI_cond_f rfl (by first | assumption | with_reducible rfl) ?_ | refine AS_gy rfl (by first | assumption | with_reducible rfl) ?_ | refine AS_gtn rfl (by first | assumption | with_reducible rfl) ?_ | refine AS_gfn rfl (by first | assumption | with_reducible rfl) ?_ | refine AI_block (AI_loop ?_) | refine AI_block ?_ | refine AI_ret ⟨_, rfl, ?_⟩)
  · obtain ⟨y, hy, _, hdrop⟩ := drop_at h0 hc'
    rw [hdrop, List.all_cons] at heq
    refine AS_op (OpR_idx Try.underlying25 sz3 rfl rfl hR (fun _ => rfl) h0 hy fun b o hrow => ?_)
    try (dsimp only [st, setL, AV.cells, List.set_cons_zero, List.set_cons_succ, List.drop_zero, List.drop_succ_cons, List.take_zero, List.take_succ_cons, Nat.zero_add, Nat.add_zero, Nat.reduceAdd, List.cons_append, List.nil_append, List.eraseIdx_cons_zero, List.eraseIdx_cons_succ])
    repeat (first | refine AI_seqk fun K hK => ?_ | refine AI_reg ?_ | ((first | refine wmv rfl ?_ | refine wag rfl ?_ | refine war _ rfl rfl rfl (by omega) (by omega) ?_ | refine wbn rfl rfl rfl ?_ | refine wnt rfl ?_ | refine wex rfl rfl ?_ | refine wpt rfl (by first | assumption | with_reducible rfl) rfl ?_ | refine wpf rfl (by first | assumption | with_reducible rfl) rfl ?_ | refine wpb rfl rfl rfl ?_ | refine wmf rfl ?_ | refine wnc rfl ?_ | refine wbq Try.underlying4 rfl rfl _ (.inr ⟨rfl, rfl⟩) ?_ | refine wbq Try.underlying4 rfl rfl _ (.inl ⟨rfl, rfl⟩) ?_); try dsimp only [st, List.set_cons_zero, List.set_cons_succ]) | ((first | refine AS_nil ?_ | refine AI_skip ?_ | refine AI_exit ?_); try simp only [AThen, ABlk, reduceIte, reduceCtorEq]) | ((first | refine hK _ _ ?_ | ((first | clear hK K | clear IH hK K); refine hK _ _ ?_) | ((first | clear hK K | clear IH hK K); (first | clear hK K | clear IH hK K); refine hK _ _ ?_) | ((first | clear hK K | clear IH hK K); (first | clear hK K | clear IH hK K); (first | clear hK K | clear IH hK K); refine hK _ _ ?_)); try (first | clear hK K | clear IH hK K)) | refine AI_cond_t rfl (by first | assumption | with_reducible rfl) ?_ | refine AI_cond_f rfl (by first | assumption | with_reducible rfl) ?_ | refine AS_gy rfl (by first | assumption | with_reducible rfl) ?_ | refine AS_gtn rfl (by first | assumption | with_reducible rfl) ?_ | refine AS_gfn rfl (by first | assumption | with_reducible rfl) ?_ | refine AI_block (AI_loop ?_) | refine AI_block ?_ | refine AI_ret ⟨_, rfl, ?_⟩)
    refine AS_op (OpR_load rfl (loadA_1 ag3 (cell_row hrow)) ?_)
    try (dsimp only [st, setL, AV.cells, List.set_cons_zero, List.set_cons_succ, List.drop_zero, List.drop_succ_cons, List.take_zero, List.take_succ_cons, Nat.zero_add, Nat.add_zero, Nat.reduceAdd, List.cons_append, List.nil_append, List.eraseIdx_cons_zero, List.eraseIdx_cons_succ])
    repeat (first | refine AI_seqk fun K hK => ?_ | refine AI_reg ?_ | ((first | refine wmv rfl ?_ | refine wag rfl ?_ | refine war _ rfl rfl rfl (by omega) (by omega) ?_ | refine wbn rfl rfl rfl ?_ | refine wnt rfl ?_ | refine wex rfl rfl ?_ | refine wpt rfl (by first | assumption | with_reducible rfl) rfl ?_ | refine wpf rfl (by first | assumption | with_reducible rfl) rfl ?_ | refine wpb rfl rfl rfl ?_ | refine wmf rfl ?_ | refine wnc rfl ?_ | refine wbq Try.underlying4 rfl rfl _ (.inr ⟨rfl, rfl⟩) ?_ | refine wbq Try.underlying4 rfl rfl _ (.inl ⟨rfl, rfl⟩) ?_); try dsimp only [st, List.set_cons_zero, List.set_cons_succ]) | ((first | refine AS_nil ?_ | refine AI_skip ?_ | refine AI_exit ?_); try simp only [AThen, ABlk, reduceIte, reduceCtorEq]) | ((first | refine hK _ _ ?_ | ((first | clear hK K | clear IH hK K); refine hK _ _ ?_) | ((first | clear hK K | clear IH hK K); (first | clear hK K | clear IH hK K); refine hK _ _ ?_) | ((first | clear hK K | clear IH hK K); (first | clear hK K | clear IH hK K); (first | clear hK K | clear IH hK K); refine hK _ _ ?_)); try (first | clear hK K | clear IH hK K)) | refine AI_cond_t rfl (by first | assumption | with_reducible rfl) ?_ | refine AI_cond_f rfl (by first | assumption | with_reducible rfl) ?_ | refine AS_gy rfl (by first | assumption | with_reducible rfl) ?_ | refine AS_gtn rfl (by first | assumption | with_reducible rfl) ?_ | refine AS_gfn rfl (by first | assumption | with_reducible rfl) ?_ | refine AI_block (AI_loop ?_) | refine AI_block ?_ | refine AI_ret ⟨_, rfl, ?_⟩)
    refine AS_op (OpR_call rfl rfl (l1In_ac _ _ _ _) ?_)
    rintro _ _ wf1 ⟨rfl, rfl⟩
    try (dsimp only [st, setL, AV.cells, List.set_cons_zero, List.set_cons_succ, List.drop_zero, List.drop_succ_cons, List.take_zero, List.take_succ_cons, Nat.zero_add, Nat.add_zero, Nat.reduceAdd, List.cons_append, List.nil_append, List.eraseIdx_cons_zero, List.eraseIdx_cons_succ])
    repeat (first | refine AI_seqk fun K hK => ?_ | refine AI_reg ?_ | ((first | refine wmv rfl ?_ | refine wag rfl ?_ | refine war _ rfl rfl rfl (by omega) (by omega) ?_ | refine wbn rfl rfl rfl ?_ | refine wnt rfl ?_ | refine wex rfl rfl ?_ | refine wpt rfl (by first | assumption | with_reducible rfl) rfl ?_ | refine wpf rfl (by first | assumption | with_reducible rfl) rfl ?_ | refine wpb rfl rfl rfl ?_ | refine wmf rfl ?_ | refine wnc rfl ?_ | refine wbq Try.underlying4 rfl rfl _ (.inr ⟨rfl, rfl⟩) ?_ | refine wbq Try.underlying4 rfl rfl _ (.inl ⟨rfl, rfl⟩) ?_); try dsimp only [st, List.set_cons_zero, List.set_cons_succ]) | ((first | refine AS_nil ?_ | refine AI_skip ?_ | refine AI_exit ?_); try simp only [AThen, ABlk, reduceIte, reduceCtorEq]) | ((first | refine hK _ _ ?_ | ((first | clear hK K | clear IH hK K); refine hK _ _ ?_) | ((first | clear hK K | clear IH hK K); (first | clear hK K | clear IH hK K); refine hK _ _ ?_) | ((first | clear hK K | clear IH hK K); (first | clear hK K | clear IH hK K); (first | clear hK K | clear IH hK K); refine hK _ _ ?_)); try (first | clear hK K | clear IH hK K)) | refine AI_cond_t rfl (by first | assumption | with_reducible rfl) ?_ | refine AI_cond_f rfl (by first | assumption | with_reducible rfl) ?_ | refine AS_gy rfl (by first | assumption | with_reducible rfl) ?_ | refine AS_gtn rfl (by first | assumption | with_reducible rfl) ?_ | refine AS_gfn rfl (by first | assumption | with_reducible rfl) ?_ | refine AI_block (AI_loop ?_) | refine AI_block ?_ | refine AI_ret ⟨_, rfl, ?_⟩)
    (first | refine AS_gt rfl ?_ ?_ | refine AS_gf rfl ?_ ?_ | refine AI_cond rfl ?_ ?_) <;> intro hc <;> have hc' := hc <;> try simp only [decide_eq_true_eq, decide_eq_false_iff_not, Bool.not_eq_true', Bool.not_eq_false', Bool.not_eq_true, Bool.not_eq_false, beq_iff_eq, bne_iff_ne, beq_eq_false_iff_ne, bne_eq_false_iff_eq, Int.not_lt, Int.not_le, ge_iff_le, gt_iff_lt, not_and, ne_eq, Decidable.not_not] at hc'
    all_goals
      repeat (first | refine AI_seqk fun K hK => ?_ | refine AI_reg ?_ | ((first | refine wmv rfl ?_ | refine wag rfl ?_ | refine war _ rfl rfl rfl (by omega) (by omega) ?_ | refine wbn rfl rfl rfl ?_ | refine wnt rfl ?_ | refine wex rfl rfl ?_ | refine wpt rfl (by first | assumption | with_reducible rfl) rfl ?_ | refine wpf rfl (by first | assumption | with_reducible rfl) rfl ?_ | refine wpb rfl rfl rfl ?_ | refine wmf rfl ?_ | refine wnc rfl ?_ | refine wbq Try.underlying4 rfl rfl _ (.inr ⟨rfl, rfl⟩) ?_ | refine wbq Try.underlying4 rfl rfl _ (.inl ⟨rfl, rfl⟩) ?_); try dsimp only [st, List.set_cons_zero, List.set_cons_succ]) | ((first | refine AS_nil ?_ | refine AI_skip ?_ | refine AI_exit ?_); try simp only [AThen, ABlk, reduceIte, reduceCtorEq]) | ((first | refine hK _ _ ?_ | ((first | clear hK K | clear IH hK K); refine hK _ _ ?_) | ((first | clear hK K | clear IH hK K); (first | clear hK K | clear IH hK K); refine hK _ _ ?_) | ((first | clear hK K | clear IH hK K); (first | clear hK K | clear IH hK K); (first | clear hK K | clear IH hK K); refine hK _ _ ?_)); try (first | clear hK K | clear IH hK K)) | refine AI_cond_t rfl (by first | assumption | with_reducible rfl) ?_ | refine AI_cond_f rfl (by first | assumption | with_reducible rfl) ?_ | refine AS_gy rfl (by first | assumption | with_reducible rfl) ?_ | refine AS_gtn rfl (by first | assumption | with_reducible rfl) ?_ | refine AS_gfn rfl (by first | assumption | with_reducible rfl) ?_ | refine AI_block (AI_loop ?_) | refine AI_block ?_ | refine AI_ret ⟨_, rfl, ?_⟩)
    · refine ⟨?_, rfl⟩
      rw [heq, show decide (lo ≤ y ∧ y ≤ hi) = false by simpa only [Bool.not_eq_true'] using hc]
      rfl
    · refine IH (n - 1) _ _ (by omega) ⟨i + 1, _, exJ rfl, by omega, by omega, rfl, ?_⟩
      rw [heq, toNat_succ h0, show decide (lo ≤ y ∧ y ≤ hi) = true by simpa only [Bool.not_eq_false'] using hc]
      rfl
  · refine ⟨?_, rfl⟩
    rw [heq, List.drop_eq_nil_of_le (by omega)]
    rfl

theorem szIntS_ac (l : List Int) (v : AV) (k : Int) (h : AH) (hR : Rd h v l) (hk : 0 ≤ k) (hk1 : k ≤ 4611686018427387904) (hl : l.length ≤ 9223372036854775807) :
    AC Try.prog 64 [v, .i .i64 k] h (fun r h' => r = .i .i64 (if k - l.length < 0 then -1 else k - l.length) ∧ h = h') := by
  refine e64 _ _ fun wf => ?_
  unfold c64
  repeat (first | refine AI_seqk fun K hK => ?_ | refine AI_reg ?_ | ((first | refine wmv rfl ?_ | refine wag rfl ?_ | refine war _ rfl rfl rfl (by omega) (by omega) ?_ | refine wbn rfl rfl rfl ?_ | refine wnt rfl ?_ | refine wex rfl rfl ?_ | refine wpt rfl (by first | assumption | with_reducible rfl) rfl ?_ | refine wpf rfl (by first | assumption | with_reducible rfl) rfl ?_ | refine wpb rfl rfl rfl ?_ | refine wmf rfl ?_ | refine wnc rfl ?_ | refine wbq Try.underlying4 rfl rfl _ (.inr ⟨rfl, rfl⟩) ?_ | refine wbq Try.underlying4 rfl rfl _ (.inl ⟨rfl, rfl⟩) ?_); try dsimp only [st, List.set_cons_zero, List.set_cons_succ]) | ((first | refine AS_nil ?_ | refine AI_skip ?_ | refine AI_exit ?_); try simp only [AThen, ABlk, reduceIte, reduceCtorEq]) | ((first | refine hK _ _ ?_ | ((first | clear hK K | clear IH hK K); refine hK _ _ ?_) | ((first | clear hK K | clear IH hK K); (first | clear hK K | clear IH hK K); refine hK _ _ ?_) | ((first | clear hK K | clear IH hK K); (first | clear hK K | clear IH hK K); (first | clear hK K | clear IH hK K); refine hK _ _ ?_)); try (first | clear hK K | clear IH hK K)) | refine AI_cond_t rfl (by first | assumption | with_reducible rfl) ?_ | refine AI_cond_f rfl (by first | assumption | with_reducible rfl) ?_ | refine AS_gy rfl (by first | assumption | with_reducible rfl) ?_ | refine AS_gtn rfl (by first | assumption | with_reducible rfl) ?_ | refine AS_gfn rfl (by first | assumption | with_reducible rfl) ?_ | refine AI_block (AI_loop ?_) | refine AI_block ?_ | refine AI_ret ⟨_, rfl, ?_⟩)
  refine AS_op (OpR_lenA Try.underlying25 rfl hR.len ?_)
  try (dsimp only [st, setL, AV.cells, List.set_cons_zero, List.set_cons_succ, List.drop_zero, List.drop_succ_cons, List.take_zero, List.take_succ_cons, Nat.zero_add, Nat.add_zero, Nat.reduceAdd, List.cons_append, List.nil_append, List.eraseIdx_cons_zero, List.eraseIdx_cons_succ])
  repeat (first | refine AI_seqk fun K hK => ?_ | refine AI_reg ?_ | ((first | refine wmv rfl ?_ | refine wag rfl ?_ | refine war _ rfl rfl rfl (by omega) (by omega) ?_ | refine wbn rfl rfl rfl ?_ | refine wnt rfl ?_ | refine wex rfl rfl ?_ | refine wpt rfl (by first | assumption | with_reducible rfl) rfl ?_ | refine wpf rfl (by first | assumption | with_reducible rfl) rfl ?_ | refine wpb rfl rfl rfl ?_ | refine wmf rfl ?_ | refine wnc rfl ?_ | refine wbq Try.underlying4 rfl rfl _ (.inr ⟨rfl, rfl⟩) ?_ | refine wbq Try.underlying4 rfl rfl _ (.inl ⟨rfl, rfl⟩) ?_); try dsimp only [st, List.set_cons_zero, List.set_cons_succ]) | ((first | refine AS_nil ?_ | refine AI_skip ?_ | refine AI_exit ?_); try simp only [AThen, ABlk, reduceIte, reduceCtorEq]) | ((first | refine hK _ _ ?_ | ((first | clear hK K | clear IH hK K); refine hK _ _ ?_) | ((first | clear hK K | clear IH hK K); (first | clear hK K | clear IH hK K); refine hK _ _ ?_) | ((first | clear hK K | clear IH hK K); (first | clear hK K | clear IH hK K); (first | clear hK K | clear IH hK K); refine hK _ _ ?_)); try (first | clear hK K | clear IH hK K)) | refine AI_cond_t rfl (by first | assumption | with_reducible rfl) ?_ | refine AI_cond_f rfl (by first | assumption | with_reducible rfl) ?_ | refine AS_gy rfl (by first | assumption | with_reducible rfl) ?_ | refine AS_gtn rfl (by first | assumption | with_reducible rfl) ?_ | refine AS_gfn rfl (by first | assumption | with_reducible rfl) ?_ | refine AI_block (AI_loop ?_) | refine AI_block ?_ | refine AI_ret ⟨_, rfl, ?_⟩)
  (first | refine AS_gt rfl ?_ ?_ | refine AS_gf rfl ?_ ?_ | refine AI_cond rfl ?_ ?_) <;> intro hc <;> have hc' := hc <;> try simp only [decide_eq_true_eq, decide_eq_false_iff_not, Bool.not_eq_true', Bool.not_eq_false', Bool.not_eq_true, Bool.not_eq_false, beq_iff_eq, bne_iff_ne, beq_eq_false_iff_ne, bne_eq_false_iff_eq, Int.not_lt, Int.not_le, ge_iff_le, gt_iff_lt, not_and, ne_eq, Decidable.not_not] at hc'
  all_goals
    repeat (first | refine AI_seqk fun K hK => ?_ | refine AI_reg ?_ | ((first | refine wmv rfl ?_ | refine wag rfl ?_ | refine war _ rfl rfl rfl (by omega) (by omega) ?_ | refine wbn rfl rfl rfl ?_ | refine wnt rfl ?_ | refine wex rfl rfl ?_ | refine wpt rfl (by first | assumption | with_reducible rfl) rfl ?_ | refine wpf rfl (by first | assumption | with_reducible rfl) rfl ?_ | refine wpb rfl rfl rfl ?_ | refine wmf rfl ?_ | refine wnc rfl ?_ | refine wbq Try.underlying4 rfl rfl _ (.inr ⟨rfl, rfl⟩) ?_ | refine wbq Try.underlying4 rfl rfl _ (.inl ⟨rfl, rfl⟩) ?_); try dsimp only [st, List.set_cons_zero, List.set_cons_succ]) | ((first | refine AS_nil ?_ | refine AI_skip ?_ | refine AI_exit ?_); try simp only [AThen, ABlk, reduceIte, reduceCtorEq]) | ((first | refine hK _ _ ?_ | ((first | clear hK K | clear IH hK K); refine hK _ _ ?_) | ((first | clear hK K | clear IH hK K); (first | clear hK K | clear IH hK K); refine hK _ _ ?_) | ((first | clear hK K | clear IH hK K); (first | clear hK K | clear IH hK K); (first | clear hK K | clear IH hK K); refine hK _ _ ?_)); try (first | clear hK K | clear IH hK K)) | refine AI_cond_t rfl (by first | assumption | with_reducible rfl) ?_ | refine AI_cond_f rfl (by first | assumption | with_reducible rfl) ?_ | refine AS_gy rfl (by first | assumption | with_reducible rfl) ?_ | refine AS_gtn rfl (by first | assumption | with_reducible rfl) ?_ | refine AS_gfn rfl (by first | assumption | with_reducible rfl) ?_ | refine AI_block (AI_loop ?_) | refine AI_block ?_ | refine AI_ret ⟨_, rfl, ?_⟩)
  · exact ⟨by rw [if_pos hc']; rfl, rfl⟩
  · exact ⟨by rw [if_neg (by omega)]; rfl, rfl⟩

theorem take_snoc {α : Type} {l : List α} {i : Nat} {y : α} (hy : l[i]? = some y) : l.take (i + 1) = l.take i ++ [y] := by rw [List.take_add_one, hy]; rfl

theorem szStepS_ac (l : List (Int × Int)) (v : AV) (k : Int) (h : AH) (hR : RdG 2 enStep h v l) (hk : 0 ≤ k) (hk1 : k ≤ 1048576) (hl : l.length ≤ 9223372036854775807) :
    AC Try.prog 63 [v, .i .i64 k] h (fun r h' => r = .i .i64 (if k - l.length < 0 then -1 else k - l.length) ∧ h.le h') := by
  refine e63 _ _ fun wf => ?_
  unfold c63
  refine LI_start wf ?_
  refine W ?_
  (first | refine LS_gt rfl ?_ ?_ | refine LS_gf rfl ?_ ?_ | refine LI_cond rfl ?_ ?_) <;> intro hc <;> have hc' := hc <;> try simp only [decide_eq_true_eq, decide_eq_false_iff_not, Bool.not_eq_true', Bool.not_eq_false', Bool.not_eq_true, Bool.not_eq_false, beq_iff_eq, bne_iff_ne, beq_eq_false_iff_ne, bne_eq_false_iff_eq, Int.not_lt, Int.not_le, ge_iff_le, gt_iff_lt, not_and, ne_eq, Decidable.not_not] at hc'
  all_goals (try (dsimp only [st, setL, AV.cells, List.set_cons_zero, List.set_cons_succ, List.drop_zero, List.drop_succ_cons, List.take_zero, List.take_succ_cons, Nat.zero_add, Nat.add_zero, Nat.reduceAdd, List.cons_append, List.nil_append, List.eraseIdx_cons_zero, List.eraseIdx_cons_succ]))
  all_goals (refine W ?_)
  · refine RET fun h' HL => ?_
    try dsimp only [oneA]
    exact ⟨by rw [if_pos hc'], HL.le⟩
  · refine RET fun h' HL => ?_
    try dsimp only [oneA]
    exact ⟨by rw [if_neg (by omega)], HL.le⟩

theorem szPlan_ac (p : PlanM) (v : AV) (k : Int) (h : AH) (hR : PlR h v p) (hk : 0 ≤ k) (hk1 : k ≤ 1048576) (hl : p.steps.length ≤ 9223372036854775807) (hl2 : p.outs.length ≤ 9223372036854775807) :
    AC Try.prog 20 [v, .i .i64 k] h (fun r h' => (∃ z, r = .i .i64 z ∧ (0 ≤ z → p.steps.length + p.outs.length ≤ k)) ∧ h.le h') := by
  obtain ⟨vs, vo, rfl, hs, ho⟩ := hR
  refine e20 _ _ fun wf => ?_
  unfold c20
  refine LI_start wf ?_
  refine W ?_
  refine LS_bxn rfl (sc_cons rfl (sc_cons (rd_sc hs) (sc_cons (rd_sc ho) rfl))) fun b1 => ?_
  try (dsimp only [st, setL, AV.cells, List.set_cons_zero, List.set_cons_succ, List.drop_zero, List.drop_succ_cons, List.take_zero, List.take_succ_cons, Nat.zero_add, Nat.add_zero, Nat.reduceAdd, List.cons_append, List.nil_append, List.eraseIdx_cons_zero, List.eraseIdx_cons_succ])
  refine W ?_
  refine LS_c0 (fun h' HL wf => szStepS_ac p.steps vs k h' (hs.le HL.le) hk hk1 hl) rfl rfl ?_
  try (dsimp only [st, setL, AV.cells, List.set_cons_zero, List.set_cons_succ, List.drop_zero, List.drop_succ_cons, List.take_zero, List.take_succ_cons, Nat.zero_add, Nat.add_zero, Nat.reduceAdd, List.cons_append, List.nil_append, List.eraseIdx_cons_zero, List.eraseIdx_cons_succ])
  refine W ?_
  (first | refine LS_gt rfl ?_ ?_ | refine LS_gf rfl ?_ ?_ | refine LI_cond rfl ?_ ?_) <;> intro hc <;> have hc' := hc <;> try simp only [decide_eq_true_eq, decide_eq_false_iff_not, Bool.not_eq_true', Bool.not_eq_false', Bool.not_eq_true, Bool.not_eq_false, beq_iff_eq, bne_iff_ne, beq_eq_false_iff_ne, bne_eq_false_iff_eq, Int.not_lt, Int.not_le, ge_iff_le, gt_iff_lt, not_and, ne_eq, Decidable.not_not] at hc'
  all_goals (try (dsimp only [st, setL, AV.cells, List.set_cons_zero, List.set_cons_succ, List.drop_zero, List.drop_succ_cons, List.take_zero, List.take_succ_cons, Nat.zero_add, Nat.add_zero, Nat.reduceAdd, List.cons_append, List.nil_append, List.eraseIdx_cons_zero, List.eraseIdx_cons_succ]))
  all_goals (refine W ?_)
  · refine RET fun h' HL => ?_
    try dsimp only [oneA]
    exact ⟨⟨_, rfl, fun e => by omega⟩, HL.le⟩
  · have hn : ¬ (k - (p.steps.length : Int) < 0) := fun e => by rw [if_pos e] at hc'; omega
    rw [if_neg hn]
    refine LS_c0' (fun h' HL wf => szIntS_ac p.outs vo (k - p.steps.length) h' (ho.le HL.le) (by omega) (by omega) hl2) rfl rfl ?_
    try (dsimp only [st, setL, AV.cells, List.set_cons_zero, List.set_cons_succ, List.drop_zero, List.drop_succ_cons, List.take_zero, List.take_succ_cons, Nat.zero_add, Nat.add_zero, Nat.reduceAdd, List.cons_append, List.nil_append, List.eraseIdx_cons_zero, List.eraseIdx_cons_succ])
    refine W ?_
    (first | refine LS_gt rfl ?_ ?_ | refine LS_gf rfl ?_ ?_ | refine LI_cond rfl ?_ ?_) <;> intro hc <;> have hc' := hc <;> try simp only [decide_eq_true_eq, decide_eq_false_iff_not, Bool.not_eq_true', Bool.not_eq_false', Bool.not_eq_true, Bool.not_eq_false, beq_iff_eq, bne_iff_ne, beq_eq_false_iff_ne, bne_eq_false_iff_eq, Int.not_lt, Int.not_le, ge_iff_le, gt_iff_lt, not_and, ne_eq, Decidable.not_not] at hc'
    all_goals (try (dsimp only [st, setL, AV.cells, List.set_cons_zero, List.set_cons_succ, List.drop_zero, List.drop_succ_cons, List.take_zero, List.take_succ_cons, Nat.zero_add, Nat.add_zero, Nat.reduceAdd, List.cons_append, List.nil_append, List.eraseIdx_cons_zero, List.eraseIdx_cons_succ]))
    all_goals (refine W ?_)
    · refine RET fun h' HL => ?_
      try dsimp only [oneA]
      exact ⟨⟨_, rfl, fun e => by omega⟩, HL.le⟩
    · have hn : ¬ (k - (p.steps.length : Int) - (p.outs.length : Int) < 0) := fun e => by rw [if_pos e] at hc'; omega
      refine RET fun h' HL => ?_
      try dsimp only [oneA]
      exact ⟨⟨_, rfl, fun e => by omega⟩, HL.le⟩

theorem toStep_ac (s : Int × Int) (h : AH) : AC Try.prog 115 [.agg (enStep s)] h (fun r h' => r = .agg (enStep s) ∧ h.le h') := by
  refine e115 _ fun wf => ?_
  unfold c115
  refine LI_start wf ?_
  refine W ?_
  refine LS_bxn rfl rfl fun b1 => ?_
  try (dsimp only [st, setL, AV.cells, List.set_cons_zero, List.set_cons_succ, List.drop_zero, List.drop_succ_cons, List.take_zero, List.take_succ_cons, Nat.zero_add, Nat.add_zero, Nat.reduceAdd, List.cons_append, List.nil_append, List.eraseIdx_cons_zero, List.eraseIdx_cons_succ])
  refine W ?_
  refine LS_al rfl fun b2 => ?_
  try (dsimp only [st, setL, AV.cells, List.set_cons_zero, List.set_cons_succ, List.drop_zero, List.drop_succ_cons, List.take_zero, List.take_succ_cons, Nat.zero_add, Nat.add_zero, Nat.reduceAdd, List.cons_append, List.nil_append, List.eraseIdx_cons_zero, List.eraseIdx_cons_succ])
  refine W ?_
  refine LS_al rfl fun b3 => ?_
  try (dsimp only [st, setL, AV.cells, List.set_cons_zero, List.set_cons_succ, List.drop_zero, List.drop_succ_cons, List.take_zero, List.take_succ_cons, Nat.zero_add, Nat.add_zero, Nat.reduceAdd, List.cons_append, List.nil_append, List.eraseIdx_cons_zero, List.eraseIdx_cons_succ])
  refine W ?_
  refine RET fun h' HL => ?_
  try dsimp only [oneA]
  exact ⟨rfl, HL.le⟩

theorem put_step {l : List (Int × Int)} {i : Nat} {y : Int × Int} (hi : i < l.length) (hy : l[i]? = some y) : (l.take i ++ List.replicate (l.length - i) ((0, 0) : Int × Int)).set i y = l.take (i + 1) ++ List.replicate (l.length - (i + 1)) (0, 0) := by
  have h1 : (l.take i).length = i := by simp; omega
  rw [List.set_append_right _ _ (by omega), h1, Nat.sub_self, show l.length - i = (l.length - (i + 1)) + 1 by omega, List.replicate_succ, List.set_cons_zero, take_snoc hy]
  simp

theorem toStepS_ac (l : List (Int × Int)) (v : AV) (h : AH) (hR : RdG 2 enStep h v l) (hl : l.length ≤ 1048576) :
    AC Try.prog 65 [v] h (fun r h' => Own h 2 enStep h' r l) := by
  refine e65 _ fun wf => ?_
  unfold c65
  refine LI_start wf ?_
  refine W ?_
  refine LS_mk2 ((0, 0) : Int × Int) rfl (by decide) rfl rfl rfl rfl (by omega) (by omega) (by omega) enStep2 rfl fun b1 => ?_
  try (dsimp only [st, setL, AV.cells, List.set_cons_zero, List.set_cons_succ, List.drop_zero, List.drop_succ_cons, List.take_zero, List.take_succ_cons, Nat.zero_add, Nat.add_zero, Nat.reduceAdd, List.cons_append, List.nil_append, List.eraseIdx_cons_zero, List.eraseIdx_cons_succ])
  refine W ?_
  refine LIL_ind (fun n a L => ∃ (i : Int), (∃ r : Nat → AV, a = [v, r 1, r 2, .sl b1 0 l.length true, .i .i64 i, r 5, r 6, r 7, r 8, r 9, r 10, r 11, r 12, r 13, r 14, r 15, r 16, r 17, r 18, r 19, r 20, r 21, r 22]) ∧ L = [.sl (.sl b1 0 l.length true) 2 ((l.take i.toNat ++ List.replicate (l.length - i.toNat) ((0, 0) : Int × Int)).flatMap enStep)] ∧ 0 ≤ i ∧ i + n = l.length)
    l.length ⟨0, exJ rfl, rfl, by omega, by omega⟩ ?_
  rintro n a L ⟨i, ⟨r, rfl⟩, rfl, h0, hn⟩ IH
  refine W ?_
  (first | refine LS_gt rfl ?_ ?_ | refine LS_gf rfl ?_ ?_ | refine LI_cond rfl ?_ ?_) <;> intro hc <;> have hc' := hc <;> try simp only [decide_eq_true_eq, decide_eq_false_iff_not, Bool.not_eq_true', Bool.not_eq_false', Bool.not_eq_true, Bool.not_eq_false, beq_iff_eq, bne_iff_ne, beq_eq_false_iff_ne, bne_eq_false_iff_eq, Int.not_lt, Int.not_le, ge_iff_le, gt_iff_lt, not_and, ne_eq, Decidable.not_not] at hc'
  all_goals (try (dsimp only [st, setL, AV.cells, List.set_cons_zero, List.set_cons_succ, List.drop_zero, List.drop_succ_cons, List.take_zero, List.take_succ_cons, Nat.zero_add, Nat.add_zero, Nat.reduceAdd, List.cons_append, List.nil_append, List.eraseIdx_cons_zero, List.eraseIdx_cons_succ]))
  all_goals (refine W ?_)
  · obtain ⟨y, hy, _, _⟩ := drop_at h0 hc'
    refine LS_ix (fun h' HL => hR.le HL.le) enStep2 hy h0 rfl rfl fun b o hrow => ?_
    try (dsimp only [st, setL, AV.cells, List.set_cons_zero, List.set_cons_succ, List.drop_zero, List.drop_succ_cons, List.take_zero, List.take_succ_cons, Nat.zero_add, Nat.add_zero, Nat.reduceAdd, List.cons_append, List.nil_append, List.eraseIdx_cons_zero, List.eraseIdx_cons_succ])
    refine W ?_
    refine LS_c0 (fun h' HL wf => toStep_ac y h') rfl rfl ?_
    try (dsimp only [st, setL, AV.cells, List.set_cons_zero, List.set_cons_succ, List.drop_zero, List.drop_succ_cons, List.take_zero, List.take_succ_cons, Nat.zero_add, Nat.add_zero, Nat.reduceAdd, List.cons_append, List.nil_append, List.eraseIdx_cons_zero, List.eraseIdx_cons_succ])
    refine W ?_
    refine LS_is h0 hc' rfl rfl ?_
    try (dsimp only [st, setL, AV.cells, List.set_cons_zero, List.set_cons_succ, List.drop_zero, List.drop_succ_cons, List.take_zero, List.take_succ_cons, Nat.zero_add, Nat.add_zero, Nat.reduceAdd, List.cons_append, List.nil_append, List.eraseIdx_cons_zero, List.eraseIdx_cons_succ])
    refine W ?_
    refine LS_ss y 0 i.toNat rfl (by simp; omega) (by omega) rfl enStep2 (by decide) rfl rfl rfl ?_
    try (dsimp only [st, setL, AV.cells, List.set_cons_zero, List.set_cons_succ, List.drop_zero, List.drop_succ_cons, List.take_zero, List.take_succ_cons, Nat.zero_add, Nat.add_zero, Nat.reduceAdd, List.cons_append, List.nil_append, List.eraseIdx_cons_zero, List.eraseIdx_cons_succ])
    refine W ?_
    refine IH (n - 1) _ _ (by omega) ⟨i + 1, exJ rfl, by rw [toNat_succ h0, put_step (by omega) hy], by omega, by omega⟩
  · have e : i.toNat = l.length := by omega
    refine RET fun h' HL => ?_
    try dsimp only [oneA]
    have hO := HL.ownI 0 rfl enStep2 (by decide)
    rw [e] at hO
    simpa using hO

theorem toPlan_ac (p : PlanM) (v : AV) (h : AH) (hR : PlR h v p) (hl : p.steps.length ≤ 1048576) (hl2 : p.outs.length ≤ 1048576) :
    AC Try.prog 21 [v] h (fun r h' => ∃ M, (∃ vs vo, r = .agg [.i .i64 p.n, vs, vo] ∧ M = [.sl vs 2 (p.steps.flatMap enStep), .sl vo 1 (p.outs.flatMap enI)]) ∧ Loq h h' M) := by
  obtain ⟨vs, vo, rfl, hs, ho⟩ := hR
  refine e21 _ fun wf => ?_
  unfold c21
  refine LI_start wf ?_
  refine W ?_
  refine LS_bxn rfl (sc_cons rfl (sc_cons (rd_sc hs) (sc_cons (rd_sc ho) rfl))) fun b1 => ?_
  try (dsimp only [st, setL, AV.cells, List.set_cons_zero, List.set_cons_succ, List.drop_zero, List.drop_succ_cons, List.take_zero, List.take_succ_cons, Nat.zero_add, Nat.add_zero, Nat.reduceAdd, List.cons_append, List.nil_append, List.eraseIdx_cons_zero, List.eraseIdx_cons_succ])
  refine W ?_
  refine LS_al rfl fun b2 => ?_
  try (dsimp only [st, setL, AV.cells, List.set_cons_zero, List.set_cons_succ, List.drop_zero, List.drop_succ_cons, List.take_zero, List.take_succ_cons, Nat.zero_add, Nat.add_zero, Nat.reduceAdd, List.cons_append, List.nil_append, List.eraseIdx_cons_zero, List.eraseIdx_cons_succ])
  refine W ?_
  refine LS_al rfl fun b3 => ?_
  try (dsimp only [st, setL, AV.cells, List.set_cons_zero, List.set_cons_succ, List.drop_zero, List.drop_succ_cons, List.take_zero, List.take_succ_cons, Nat.zero_add, Nat.add_zero, Nat.reduceAdd, List.cons_append, List.nil_append, List.eraseIdx_cons_zero, List.eraseIdx_cons_succ])
  refine W ?_
  refine LS_co (fun h' HL wf => toStepS_ac p.steps vs h' (hs.le HL.le) hl) enStep2 rfl rfl fun w1 hw1 sw1 => ?_
  try (dsimp only [st, setL, AV.cells, List.set_cons_zero, List.set_cons_succ, List.drop_zero, List.drop_succ_cons, List.take_zero, List.take_succ_cons, Nat.zero_add, Nat.add_zero, Nat.reduceAdd, List.cons_append, List.nil_append, List.eraseIdx_cons_zero, List.eraseIdx_cons_succ])
  refine W ?_
  refine LS_co (fun h' HL wf => toIntS_own p.outs vo h' (ho.le HL.le) hl2) enI1 rfl rfl fun w2 hw2 sw2 => ?_
  try (dsimp only [st, setL, AV.cells, List.set_cons_zero, List.set_cons_succ, List.drop_zero, List.drop_succ_cons, List.take_zero, List.take_succ_cons, Nat.zero_add, Nat.add_zero, Nat.reduceAdd, List.cons_append, List.nil_append, List.eraseIdx_cons_zero, List.eraseIdx_cons_succ])
  refine W ?_
  refine RET fun h' HL => ?_
  try dsimp only [oneA]
  exact ⟨_, ⟨w1, w2, rfl, rfl⟩, (HL.sub (List.take_sublist 2 _)).swap⟩

theorem eqStep_ac (s s' : Int × Int) (h : AH) : AC Try.prog 116 [.agg (enStep s), .agg (enStep s')] h (fun r h' => r = .b (decide (s = s')) ∧ h.le h') := by
  obtain ⟨a, b⟩ := s
  obtain ⟨a', b'⟩ := s'
  refine e116 _ _ fun wf => ?_
  unfold c116
  refine LI_start wf ?_
  refine W ?_
  refine LS_bxn rfl rfl fun b1 => ?_
  try (dsimp only [st, setL, AV.cells, List.set_cons_zero, List.set_cons_succ, List.drop_zero, List.drop_succ_cons, List.take_zero, List.take_succ_cons, Nat.zero_add, Nat.add_zero, Nat.reduceAdd, List.cons_append, List.nil_append, List.eraseIdx_cons_zero, List.eraseIdx_cons_succ])
  refine W ?_
  refine LS_bxn rfl rfl fun b2 => ?_
  try (dsimp only [st, setL, AV.cells, List.set_cons_zero, List.set_cons_succ, List.drop_zero, List.drop_succ_cons, List.take_zero, List.take_succ_cons, Nat.zero_add, Nat.add_zero, Nat.reduceAdd, List.cons_append, List.nil_append, List.eraseIdx_cons_zero, List.eraseIdx_cons_succ])
  refine W ?_
  (first | refine LS_gt rfl ?_ ?_ | refine LS_gf rfl ?_ ?_ | refine LI_cond rfl ?_ ?_) <;> intro hc <;> have hc' := hc <;> try simp only [decide_eq_true_eq, decide_eq_false_iff_not, Bool.not_eq_true', Bool.not_eq_false', Bool.not_eq_true, Bool.not_eq_false, beq_iff_eq, bne_iff_ne, beq_eq_false_iff_ne, bne_eq_false_iff_eq, Int.not_lt, Int.not_le, ge_iff_le, gt_iff_lt, not_and, ne_eq, Decidable.not_not] at hc'
  all_goals (try (dsimp only [st, setL, AV.cells, List.set_cons_zero, List.set_cons_succ, List.drop_zero, List.drop_succ_cons, List.take_zero, List.take_succ_cons, Nat.zero_add, Nat.add_zero, Nat.reduceAdd, List.cons_append, List.nil_append, List.eraseIdx_cons_zero, List.eraseIdx_cons_succ]))
  all_goals (refine W ?_)
  · refine RET fun h' HL => ?_
    try dsimp only [oneA]
    exact ⟨by simp [oneA, hc'], HL.le⟩
  · (first | refine LS_gt rfl ?_ ?_ | refine LS_gf rfl ?_ ?_ | refine LI_cond rfl ?_ ?_) <;> intro hc <;> have hc' := hc <;> try simp only [decide_eq_true_eq, decide_eq_false_iff_not, Bool.not_eq_true', Bool.not_eq_false', Bool.not_eq_true, Bool.not_eq_false, beq_iff_eq, bne_iff_ne, beq_eq_false_iff_ne, bne_eq_false_iff_eq, Int.not_lt, Int.not_le, ge_iff_le, gt_iff_lt, not_and, ne_eq, Decidable.not_not] at hc'
    all_goals (try (dsimp only [st, setL, AV.cells, List.set_cons_zero, List.set_cons_succ, List.drop_zero, List.drop_succ_cons, List.take_zero, List.take_succ_cons, Nat.zero_add, Nat.add_zero, Nat.reduceAdd, List.cons_append, List.nil_append, List.eraseIdx_cons_zero, List.eraseIdx_cons_succ]))
    all_goals (refine W ?_)
    · refine RET fun h' HL => ?_
      try dsimp only [oneA]
      exact ⟨by simp [oneA, *], HL.le⟩
    · refine RET fun h' HL => ?_
      try dsimp only [oneA]
      exact ⟨by simp [oneA, *], HL.le⟩

theorem eqStepS_ac (l l' : List (Int × Int)) (v v' : AV) (h : AH) (hR : RdG 2 enStep h v l) (hR' : RdG 2 enStep h v' l') (hl : l.length ≤ 4611686018427387904) :
    AC Try.prog 66 [v, v'] h (fun r h' => r = .b (decide (l = l')) ∧ h.le h') := by
  refine e66 _ _ fun wf => ?_
  unfold c66
  refine LI_start wf ?_
  refine W ?_
  (first | refine LS_gt rfl ?_ ?_ | refine LS_gf rfl ?_ ?_ | refine LI_cond rfl ?_ ?_) <;> intro hc <;> have hc' := hc <;> try simp only [decide_eq_true_eq, decide_eq_false_iff_not, Bool.not_eq_true', Bool.not_eq_false', Bool.not_eq_true, Bool.not_eq_false, beq_iff_eq, bne_iff_ne, beq_eq_false_iff_ne, bne_eq_false_iff_eq, Int.not_lt, Int.not_le, ge_iff_le, gt_iff_lt, not_and, ne_eq, Decidable.not_not] at hc'
  all_goals (try (dsimp only [st, setL, AV.cells, List.set_cons_zero, List.set_cons_succ, List.drop_zero, List.drop_succ_cons, List.take_zero, List.take_succ_cons, Nat.zero_add, Nat.add_zero, Nat.reduceAdd, List.cons_append, List.nil_append, List.eraseIdx_cons_zero, List.eraseIdx_cons_succ]))
  all_goals (refine W ?_)
  · refine RET fun h' HL => ?_
    try dsimp only [oneA]
    refine ⟨?_, HL.le⟩
    simp only [oneA, AV.b.injEq]
    symm
    simp only [decide_eq_false_iff_not]
    rintro rfl
    exact hc' rfl
  · have hlen : l.length = l'.length := by omega
    refine LIL_ind (fun n a L => ∃ (i : Int), (∃ r : Nat → AV, a = [v, v', r 2, r 3, r 4, .i .i64 i, r 6, r 7, r 8, r 9, r 10, r 11, r 12, r 13, r 14, r 15, r 16, r 17, r 18, r 19, r 20, r 21, r 22, r 23, r 24, r 25, r 26]) ∧ L = [] ∧ 0 ≤ i ∧ i + n = l.length ∧ l.take i.toNat = l'.take i.toNat)
      l.length ⟨0, exJ rfl, rfl, by omega, by omega, by simp⟩ ?_
    rintro n a L ⟨i, ⟨r, rfl⟩, rfl, h0, hn, heq⟩ IH
    refine W ?_
    (first | refine LS_gt rfl ?_ ?_ | refine LS_gf rfl ?_ ?_ | refine LI_cond rfl ?_ ?_) <;> intro hc <;> have hc' := hc <;> try simp only [decide_eq_true_eq, decide_eq_false_iff_not, Bool.not_eq_true', Bool.not_eq_false', Bool.not_eq_true, Bool.not_eq_false, beq_iff_eq, bne_iff_ne, beq_eq_false_iff_ne, bne_eq_false_iff_eq, Int.not_lt, Int.not_le, ge_iff_le, gt_iff_lt, not_and, ne_eq, Decidable.not_not] at hc'
    all_goals (try (dsimp only [st, setL, AV.cells, List.set_cons_zero, List.set_cons_succ, List.drop_zero, List.drop_succ_cons, List.take_zero, List.take_succ_cons, Nat.zero_add, Nat.add_zero, Nat.reduceAdd, List.cons_append, List.nil_append, List.eraseIdx_cons_zero, List.eraseIdx_cons_succ]))
    all_goals (refine W ?_)
    · obtain ⟨y, hy, _, _⟩ := drop_at h0 hc'
      obtain ⟨y', hy', _, _⟩ := drop_at (l := l') h0 (by omega)
      refine dz66_0 ?_
      refine WX ?_
      refine W ?_
      refine LX_ix (fun h' HL => hR.le HL.le) enStep2 hy h0 rfl rfl noG fun b o hrow => ?_
      try (dsimp only [st, setL, AV.cells, List.set_cons_zero, List.set_cons_succ, List.drop_zero, List.drop_succ_cons, List.take_zero, List.take_succ_cons, Nat.zero_add, Nat.add_zero, Nat.reduceAdd, List.cons_append, List.nil_append, List.eraseIdx_cons_zero, List.eraseIdx_cons_succ])
      refine WX ?_
      refine W ?_
      refine LX_ix (fun h' HL => hR'.le HL.le) enStep2 hy' h0 rfl rfl noG fun b' o' hrow' => ?_
      try (dsimp only [st, setL, AV.cells, List.set_cons_zero, List.set_cons_succ, List.drop_zero, List.drop_succ_cons, List.take_zero, List.take_succ_cons, Nat.zero_add, Nat.add_zero, Nat.reduceAdd, List.cons_append, List.nil_append, List.eraseIdx_cons_zero, List.eraseIdx_cons_succ])
      refine WX ?_
      refine W ?_
      refine LX_c0 (fun h' HL wf => eqStep_ac y y' h'.frz) rfl rfl noG ?_
      try (dsimp only [st, setL, AV.cells, List.set_cons_zero, List.set_cons_succ, List.drop_zero, List.drop_succ_cons, List.take_zero, List.take_succ_cons, Nat.zero_add, Nat.add_zero, Nat.reduceAdd, List.cons_append, List.nil_append, List.eraseIdx_cons_zero, List.eraseIdx_cons_succ])
      refine WX ?_
      refine W ?_
      (first | refine LS_gt rfl ?_ ?_ | refine LS_gf rfl ?_ ?_ | refine LI_cond rfl ?_ ?_) <;> intro hc <;> have hc' := hc <;> try simp only [decide_eq_true_eq, decide_eq_false_iff_not, Bool.not_eq_true', Bool.not_eq_false', Bool.not_eq_true, Bool.not_eq_false, beq_iff_eq, bne_iff_ne, beq_eq_false_iff_ne, bne_eq_false_iff_eq, Int.not_lt, Int.not_le, ge_iff_le, gt_iff_lt, not_and, ne_eq, Decidable.not_not] at hc'
      all_goals (try (dsimp only [st, setL, AV.cells, List.set_cons_zero, List.set_cons_succ, List.drop_zero, List.drop_succ_cons, List.take_zero, List.take_succ_cons, Nat.zero_add, Nat.add_zero, Nat.reduceAdd, List.cons_append, List.nil_append, List.eraseIdx_cons_zero, List.eraseIdx_cons_succ]))
      all_goals (refine W ?_)
      · refine RET fun h' HL => ?_
        try dsimp only [oneA]
        refine ⟨?_, HL.le⟩
        have hne := of_decide_eq_false (nt hc)
        simp only [oneA, AV.b.injEq]
        symm
        simp only [decide_eq_false_iff_not]
        intro e
        exact hne (Option.some.inj (by rw [← hy, ← hy', e]))
      · have he := of_decide_eq_true (nf hc)
        refine IH (n - 1) _ _ (by omega) ⟨i + 1, exJ rfl, rfl, by omega, by omega, ?_⟩
        rw [toNat_succ h0, take_snoc hy, take_snoc hy', heq, he]
    · refine RET fun h' HL => ?_
      try dsimp only [oneA]
      refine ⟨?_, HL.le⟩
      have e : i.toNat = l.length := by omega
      rw [e] at heq
      rw [List.take_length, hlen, List.take_length] at heq
      simp [oneA, heq]

theorem eqPlan_ac (p q : PlanM) (v v' : AV) (h : AH) (hR : PlR h v p) (hR' : PlR h v' q) (hl : p.steps.length ≤ 1048576) (hl2 : p.outs.length ≤ 1048576) :
    AC Try.prog 22 [v, v'] h (fun r h' => r = .b (decide (p = q)) ∧ h.le h') := by
  obtain ⟨vs, vo, rfl, hs, ho⟩ := hR
  obtain ⟨vs', vo', rfl, hs', ho'⟩ := hR'
  obtain ⟨n, sp, ou⟩ := p
  obtain ⟨n', sp', ou'⟩ := q
  simp only at hs ho hs' ho' hl hl2
  refine e22 _ _ fun wf => ?_
  unfold c22
  refine LI_start wf ?_
  refine W ?_
  refine LS_bxn rfl (sc_cons rfl (sc_cons (rd_sc hs) (sc_cons (rd_sc ho) rfl))) fun b1 => ?_
  try (dsimp only [st, setL, AV.cells, List.set_cons_zero, List.set_cons_succ, List.drop_zero, List.drop_succ_cons, List.take_zero, List.take_succ_cons, Nat.zero_add, Nat.add_zero, Nat.reduceAdd, List.cons_append, List.nil_append, List.eraseIdx_cons_zero, List.eraseIdx_cons_succ])
  refine W ?_
  refine LS_bxn rfl (sc_cons rfl (sc_cons (rd_sc hs') (sc_cons (rd_sc ho') rfl))) fun b2 => ?_
  try (dsimp only [st, setL, AV.cells, List.set_cons_zero, List.set_cons_succ, List.drop_zero, List.drop_succ_cons, List.take_zero, List.take_succ_cons, Nat.zero_add, Nat.add_zero, Nat.reduceAdd, List.cons_append, List.nil_append, List.eraseIdx_cons_zero, List.eraseIdx_cons_succ])
  refine W ?_
  (first | refine LS_gt rfl ?_ ?_ | refine LS_gf rfl ?_ ?_ | refine LI_cond rfl ?_ ?_) <;> intro hc <;> have hc' := hc <;> try simp only [decide_eq_true_eq, decide_eq_false_iff_not, Bool.not_eq_true', Bool.not_eq_false', Bool.not_eq_true, Bool.not_eq_false, beq_iff_eq, bne_iff_ne, beq_eq_false_iff_ne, bne_eq_false_iff_eq, Int.not_lt, Int.not_le, ge_iff_le, gt_iff_lt, not_and, ne_eq, Decidable.not_not] at hc'
  all_goals (try (dsimp only [st, setL, AV.cells, List.set_cons_zero, List.set_cons_succ, List.drop_zero, List.drop_succ_cons, List.take_zero, List.take_succ_cons, Nat.zero_add, Nat.add_zero, Nat.reduceAdd, List.cons_append, List.nil_append, List.eraseIdx_cons_zero, List.eraseIdx_cons_succ]))
  all_goals (refine W ?_)
  · refine RET fun h' HL => ?_
    try dsimp only [oneA]
    exact ⟨by simp [oneA, hc'], HL.le⟩
  · refine LS_c0 (fun h' HL wf => eqStepS_ac sp sp' vs vs' h' (hs.le HL.le) (hs'.le HL.le) (by omega)) rfl rfl ?_
    try (dsimp only [st, setL, AV.cells, List.set_cons_zero, List.set_cons_succ, List.drop_zero, List.drop_succ_cons, List.take_zero, List.take_succ_cons, Nat.zero_add, Nat.add_zero, Nat.reduceAdd, List.cons_append, List.nil_append, List.eraseIdx_cons_zero, List.eraseIdx_cons_succ])
    refine W ?_
    (first | refine LS_gt rfl ?_ ?_ | refine LS_gf rfl ?_ ?_ | refine LI_cond rfl ?_ ?_) <;> intro hc <;> have hc' := hc <;> try simp only [decide_eq_true_eq, decide_eq_false_iff_not, Bool.not_eq_true', Bool.not_eq_false', Bool.not_eq_true, Bool.not_eq_false, beq_iff_eq, bne_iff_ne, beq_eq_false_iff_ne, bne_eq_false_iff_eq, Int.not_lt, Int.not_le, ge_iff_le, gt_iff_lt, not_and, ne_eq, Decidable.not_not] at hc'
    all_goals (try (dsimp only [st, setL, AV.cells, List.set_cons_zero, List.set_cons_succ, List.drop_zero, List.drop_succ_cons, List.take_zero, List.take_succ_cons, Nat.zero_add, Nat.add_zero, Nat.reduceAdd, List.cons_append, List.nil_append, List.eraseIdx_cons_zero, List.eraseIdx_cons_succ]))
    all_goals (refine W ?_)
    · have hne := of_decide_eq_false (nt hc)
      refine RET fun h' HL => ?_
      try dsimp only [oneA]
      exact ⟨by simp [oneA, hne], HL.le⟩
    · have he := of_decide_eq_true (nf hc)
      refine LS_c0' (fun h' HL wf => eqIntS_ac ou ou' vo vo' h' (ho.le HL.le) (ho'.le HL.le) (by omega)) rfl rfl ?_
      try (dsimp only [st, setL, AV.cells, List.set_cons_zero, List.set_cons_succ, List.drop_zero, List.drop_succ_cons, List.take_zero, List.take_succ_cons, Nat.zero_add, Nat.add_zero, Nat.reduceAdd, List.cons_append, List.nil_append, List.eraseIdx_cons_zero, List.eraseIdx_cons_succ])
      refine W ?_
      (first | refine LS_gt rfl ?_ ?_ | refine LS_gf rfl ?_ ?_ | refine LI_cond rfl ?_ ?_) <;> intro hc <;> have hc' := hc <;> try simp only [decide_eq_true_eq, decide_eq_false_iff_not, Bool.not_eq_true', Bool.not_eq_false', Bool.not_eq_true, Bool.not_eq_false, beq_iff_eq, bne_iff_ne, beq_eq_false_iff_ne, bne_eq_false_iff_eq, Int.not_lt, Int.not_le, ge_iff_le, gt_iff_lt, not_and, ne_eq, Decidable.not_not] at hc'
      all_goals (try (dsimp only [st, setL, AV.cells, List.set_cons_zero, List.set_cons_succ, List.drop_zero, List.drop_succ_cons, List.take_zero, List.take_succ_cons, Nat.zero_add, Nat.add_zero, Nat.reduceAdd, List.cons_append, List.nil_append, List.eraseIdx_cons_zero, List.eraseIdx_cons_succ]))
      all_goals (refine W ?_)
      · have hne := of_decide_eq_false (nt hc)
        refine RET fun h' HL => ?_
        try dsimp only [oneA]
        exact ⟨by simp [oneA, hne], HL.le⟩
      · have he2 := of_decide_eq_true (nf hc)
        refine RET fun h' HL => ?_
        try dsimp only [oneA]
        exact ⟨by simp [oneA, *], HL.le⟩

theorem eqPlan_same (p : PlanM) (v v' : AV) (h : AH) (hR : PlR h v p) (hR' : PlR h v' p) (hl : p.steps.length ≤ 1048576) (hl2 : p.outs.length ≤ 1048576) :
    AC Try.prog 22 [v, v'] h (fun r h' => r = .b true ∧ h.le h') := (eqPlan_ac p p v v' h hR hR' hl hl2).mono fun r h' H => by simpa using H

theorem any_not (l : List Int) (p : Int → Bool) : (l.any fun x => !p x) = !l.all p := by simp [List.not_all_eq_any_not]

/-! ### Exponents -/
def sumR (x y : List Int) : List Int := List.zipWith (fun a b => if a + b < 1000001 then a + b else 1000001) x y

theorem sumR_len {x y : List Int} (h : x.length = y.length) : (sumR x y).length = x.length := by simp [sumR, h]

theorem sumR_take {x y : List Int} {i : Nat} {a b : Int} (ha : x[i]? = some a) (hb : y[i]? = some b) : sumR (x.take (i + 1)) (y.take (i + 1)) = sumR (x.take i) (y.take i) ++ [if a + b < 1000001 then a + b else 1000001] := by
  have hx := (List.getElem?_eq_some_iff.1 ha).1
  have hy := (List.getElem?_eq_some_iff.1 hb).1
  rw [take_snoc ha, take_snoc hb]
  unfold sumR
  rw [List.zipWith_append (by simp; omega)]
  rfl

theorem l1Least_ac (a b : Int) (h : AH) : AC Try.prog 134 [.i .i64 a, .i .i64 b] h (fun r h' => r = .i .i64 (if a < b then a else b) ∧ h.le h') := by
  refine e134 _ _ fun wf => ?_
  unfold c134
  refine LI_start wf ?_
  refine W ?_
  (first | refine LS_gt rfl ?_ ?_ | refine LS_gf rfl ?_ ?_ | refine LI_cond rfl ?_ ?_) <;> intro hc <;> have hc' := hc <;> try simp only [decide_eq_true_eq, decide_eq_false_iff_not, Bool.not_eq_true', Bool.not_eq_false', Bool.not_eq_true, Bool.not_eq_false, beq_iff_eq, bne_iff_ne, beq_eq_false_iff_ne, bne_eq_false_iff_eq, Int.not_lt, Int.not_le, ge_iff_le, gt_iff_lt, not_and, ne_eq, Decidable.not_not] at hc'
  all_goals (try (dsimp only [st, setL, AV.cells, List.set_cons_zero, List.set_cons_succ, List.drop_zero, List.drop_succ_cons, List.take_zero, List.take_succ_cons, Nat.zero_add, Nat.add_zero, Nat.reduceAdd, List.cons_append, List.nil_append, List.eraseIdx_cons_zero, List.eraseIdx_cons_succ]))
  all_goals (refine W ?_)
  · refine RET fun h' HL => ?_
    try dsimp only [oneA]
    exact ⟨by rw [if_pos hc'], HL.le⟩
  · refine RET fun h' HL => ?_
    try dsimp only [oneA]
    exact ⟨by rw [if_neg (by omega)], HL.le⟩

def row01 (l : List Int) : Prop := ∀ x ∈ l, 0 ≤ x ∧ x ≤ 1000001

theorem plSum_ac (x y : List Int) (v v' : AV) (h : AH) (hx : Rd h v x) (hy : Rd h v' y) (hl : x.length = y.length) (hn : x.length ≤ 6) (hxb : row01 x) (hyb : row01 y) :
    AC Try.prog 137 [v, v'] h (fun r h' => Own h 1 enI h' r (sumR x y)) := by
  refine e137 _ _ fun wf => ?_
  unfold c137
  refine LI_start wf ?_
  refine W ?_
  refine LIL_nl (k := 1) ?_
  refine LIL_ind (fun n a L => ∃ (out : AV) (i : Int), (∃ r : Nat → AV, a = [v, v', r 2, r 3, r 4, out, r 6, r 7, .i .i64 x.length, .i .i64 i, r 10, r 11, r 12, r 13, r 14, r 15, r 16, r 17, r 18, r 19, r 20, r 21, r 22, r 23, r 24, r 25, r 26]) ∧ L = [.sl out 1 ((sumR (x.take i.toNat) (y.take i.toNat)).flatMap enI)] ∧ 0 ≤ i ∧ i + n = x.length)
    x.length ⟨.ns, 0, exJ rfl, rfl, by omega, by omega⟩ ?_
  rintro n a L ⟨out, i, ⟨r, rfl⟩, rfl, h0, hn⟩ IH
  refine W ?_
  (first | refine LS_gt rfl ?_ ?_ | refine LS_gf rfl ?_ ?_ | refine LI_cond rfl ?_ ?_) <;> intro hc <;> have hc' := hc <;> try simp only [decide_eq_true_eq, decide_eq_false_iff_not, Bool.not_eq_true', Bool.not_eq_false', Bool.not_eq_true, Bool.not_eq_false, beq_iff_eq, bne_iff_ne, beq_eq_false_iff_ne, bne_eq_false_iff_eq, Int.not_lt, Int.not_le, ge_iff_le, gt_iff_lt, not_and, ne_eq, Decidable.not_not] at hc'
  all_goals (try (dsimp only [st, setL, AV.cells, List.set_cons_zero, List.set_cons_succ, List.drop_zero, List.drop_succ_cons, List.take_zero, List.take_succ_cons, Nat.zero_add, Nat.add_zero, Nat.reduceAdd, List.cons_append, List.nil_append, List.eraseIdx_cons_zero, List.eraseIdx_cons_succ]))
  all_goals (refine W ?_)
  · obtain ⟨a, ha, ham, _⟩ := drop_at h0 hc'
    obtain ⟨b, hb, hbm, _⟩ := drop_at (l := y) h0 (by omega)
    have h1 := hxb a ham
    have h2 := hyb b hbm
    have hlen : (sumR (x.take i.toNat) (y.take i.toNat)).length = i.toNat := by rw [sumR_len (by simp; omega)]; simp; omega
    refine dz137_0 ?_
    refine WX ?_
    refine W ?_
    refine LX_ix (fun h' HL => hx.le HL.le) enI1 ha h0 rfl rfl noG fun q o hrow => ?_
    try (dsimp only [st, setL, AV.cells, List.set_cons_zero, List.set_cons_succ, List.drop_zero, List.drop_succ_cons, List.take_zero, List.take_succ_cons, Nat.zero_add, Nat.add_zero, Nat.reduceAdd, List.cons_append, List.nil_append, List.eraseIdx_cons_zero, List.eraseIdx_cons_succ])
    refine WX ?_
    refine W ?_
    refine LX_ix (fun h' HL => hy.le HL.le) enI1 hb h0 rfl rfl noG fun q' o' hrow' => ?_
    try (dsimp only [st, setL, AV.cells, List.set_cons_zero, List.set_cons_succ, List.drop_zero, List.drop_succ_cons, List.take_zero, List.take_succ_cons, Nat.zero_add, Nat.add_zero, Nat.reduceAdd, List.cons_append, List.nil_append, List.eraseIdx_cons_zero, List.eraseIdx_cons_succ])
    refine WX ?_
    refine W ?_
    refine LX_c0 (fun h' HL wf => l1Least_ac (a + b) 1000001 h'.frz) rfl rfl noG ?_
    try (dsimp only [st, setL, AV.cells, List.set_cons_zero, List.set_cons_succ, List.drop_zero, List.drop_succ_cons, List.take_zero, List.take_succ_cons, Nat.zero_add, Nat.add_zero, Nat.reduceAdd, List.cons_append, List.nil_append, List.eraseIdx_cons_zero, List.eraseIdx_cons_succ])
    refine WX ?_
    refine W ?_
    refine LX_lt [if a + b < 1000001 then a + b else 1000001] rfl rfl (by decide) rfl rfl rfl rfl enI1 rfl rfl noG fun lit hlit slit => ?_
    try (dsimp only [st, setL, AV.cells, List.set_cons_zero, List.set_cons_succ, List.drop_zero, List.drop_succ_cons, List.take_zero, List.take_succ_cons, Nat.zero_add, Nat.add_zero, Nat.reduceAdd, List.cons_append, List.nil_append, List.eraseIdx_cons_zero, List.eraseIdx_cons_succ])
    refine WX ?_
    refine W ?_
    refine LX_f noG (LO_ap 1 rfl (fun h' HL => HL.rdI 0 rfl enI1 (by decide)) enI1 (by decide) (by simp) (by simp; omega) (by simp; omega) rfl rfl rfl fun w hw sw => ?_)
    try (dsimp only [st, setL, AV.cells, List.set_cons_zero, List.set_cons_succ, List.drop_zero, List.drop_succ_cons, List.take_zero, List.take_succ_cons, Nat.zero_add, Nat.add_zero, Nat.reduceAdd, List.cons_append, List.nil_append, List.eraseIdx_cons_zero, List.eraseIdx_cons_succ])
    refine WX ?_
    refine W ?_
    refine LIL_drop 1 ?_
    refine IH (n - 1) _ _ (by omega) ⟨w, i + 1, exJ rfl, by rw [toNat_succ h0, sumR_take ha hb]; rfl, by omega, by omega⟩
  · have e : i.toNat = x.length := by omega
    refine RET fun h' HL => ?_
    try dsimp only [oneA]
    have hO := HL.ownI 0 rfl enI1 (by decide)
    rw [e, List.take_length, hl, List.take_length] at hO
    exact hO

def unitRow (n i : Nat) : List Int := (List.replicate n 0).set i 1

def unitsE (n : Nat) : List (List Int) := (List.range n).map (unitRow n)

def stepE (ll : List (List Int)) (s : Int × Int) : List (List Int) := ll ++ [sumR (ll.getD s.1.toNat []) (ll.getD s.2.toNat [])]

def expsE (p : PlanM) : List (List Int) := p.steps.foldl stepE (unitsE p.n.toNat)

def formedS (n : Int) : Nat → List (Int × Int) → Bool
  | _, [] => true
  | i, s :: l => decide (0 ≤ s.1 ∧ s.1 ≤ s.2 ∧ s.2 < n + i) && formedS n (i + 1) l

theorem formedS_get {n : Int} : ∀ {l : List (Int × Int)} {k i : Nat} {s : Int × Int}, formedS n k l = true → l[i]? = some s → 0 ≤ s.1 ∧ s.1 ≤ s.2 ∧ s.2 < n + k + i
  | [], _, _, _, _, h => by simp at h
  | x :: l, k, 0, s, h, e => by
    simp at e; subst e
    simp only [formedS, Bool.and_eq_true, decide_eq_true_eq] at h
    omega
  | x :: l, k, i + 1, s, h, e => by
    simp only [formedS, Bool.and_eq_true] at h
    have := formedS_get h.2 (by simpa using e)
    omega

def rowsOk (n : Nat) (ll : List (List Int)) : Prop := ∀ r ∈ ll, r.length = n ∧ row01 r

theorem unitRow_ok (n i : Nat) : (unitRow n i).length = n ∧ row01 (unitRow n i) := by
  refine ⟨by simp [unitRow], fun x hx => ?_⟩
  rcases List.mem_or_eq_of_mem_set hx with hx | rfl
  · have := (List.mem_replicate.1 hx).2; omega
  · omega

theorem unitsE_ok (n k : Nat) : rowsOk n ((unitsE n).take k) := by
  intro r hr
  obtain ⟨i, _, rfl⟩ := List.mem_map.1 (List.mem_of_mem_take hr)
  exact unitRow_ok n i

theorem sumR_ok {n : Nat} {x y : List Int} (hx : x.length = n ∧ row01 x) (hy : y.length = n ∧ row01 y) : (sumR x y).length = n ∧ row01 (sumR x y) := by
  refine ⟨by rw [sumR_len (by omega)]; omega, fun z hz => ?_⟩
  unfold sumR at hz
  obtain ⟨i, hi⟩ := List.mem_iff_getElem?.1 hz
  rw [List.getElem?_zipWith] at hi
  cases hxi : x[i]? with
  | none => rw [hxi] at hi; simp at hi
  | some a =>
    cases hyi : y[i]? with
    | none => rw [hxi, hyi] at hi; simp at hi
    | some b =>
      rw [hxi, hyi] at hi
      have h1 := hx.2 a (List.mem_of_getElem? hxi)
      have h2 := hy.2 b (List.mem_of_getElem? hyi)
      simp only [Option.some.injEq] at hi
      subst hi
      split <;> omega

theorem getD_get {ll : List (List Int)} {i : Nat} (h : i < ll.length) : ll[i]? = some (ll.getD i []) := by simp [List.getD, List.getElem?_eq_getElem h]

/-- The values of the first steps. -/
def expsT (p : PlanM) (i : Nat) : List (List Int) := (p.steps.take i).foldl stepE (unitsE p.n.toNat)

theorem expsT_succ {p : PlanM} {i : Nat} {s : Int × Int} (hs : p.steps[i]? = some s) : expsT p (i + 1) = stepE (expsT p i) s := by
  unfold expsT
  rw [take_snoc hs, List.foldl_append]
  rfl

theorem expsT_ok {p : PlanM} (hf : formedS p.n 0 p.steps = true) (hn : 1 ≤ p.n) : ∀ i, i ≤ p.steps.length → (expsT p i).length = p.n.toNat + i ∧ rowsOk p.n.toNat (expsT p i)
  | 0, _ => by
    have e : expsT p 0 = (unitsE p.n.toNat).take p.n.toNat := by
      rw [List.take_of_length_le (by simp [unitsE])]
      rfl
    exact ⟨by simp [expsT, unitsE], by rw [e]; exact unitsE_ok _ _⟩
  | i + 1, hi => by
    obtain ⟨h1, h2⟩ := expsT_ok hf hn i (by omega)
    have hs : p.steps[i]? = some p.steps[i] := List.getElem?_eq_getElem (by omega)
    have hb := formedS_get hf hs
    generalize p.steps[i] = s at hs hb
    rw [expsT_succ hs]
    refine ⟨by simp [stepE, h1]; omega, fun r hr => ?_⟩
    rcases List.mem_append.1 hr with hr | hr
    · exact h2 r hr
    · rw [List.mem_singleton.1 hr]
      exact sumR_ok (h2 _ (List.mem_of_getElem? (getD_get (by omega)))) (h2 _ (List.mem_of_getElem? (getD_get (by omega))))

def ssI (v : AV) (us : List AV) (ll : List (List Int)) : List It := .sl v 1 (us.flatMap enV) :: (rowsI us ll ++ [])

theorem unit_next {n i : Nat} (h : i < n) : (unitsE n).take (i + 1) = (unitsE n).take i ++ [unitRow n i] := take_snoc (by simp [unitsE, h])

theorem set_unit (n i : Nat) : (List.replicate n (0 : Int)).set i 1 = unitRow n i := rfl

theorem at_ {α : Type} {l : List α} {i : Nat} (h : i < l.length) : ∃ x, l[i]? = some x := ⟨_, List.getElem?_eq_getElem h⟩

theorem expsT_end (p : PlanM) : expsT p p.steps.length = expsE p := by simp [expsT, expsE]

theorem plExponents_ac (p : PlanM) (v : AV) (h : AH) (hR : PlR h v p) (hn0 : 1 ≤ p.n) (hn1 : p.n ≤ 6) (hl : p.steps.length ≤ 40) (hf : formedS p.n 0 p.steps = true) :
    AC Try.prog 114 [v] h (fun r h' => ∃ M, (∃ us, us.length = (expsE p).length ∧ lenA r = some us.length ∧ r.sc = true ∧ M = ssI r us (expsE p)) ∧ Loq h h' M) := by
  obtain ⟨vs, vo, rfl, hs, ho⟩ := hR
  refine e114 _ fun wf => ?_
  unfold c114
  refine LI_start wf ?_
  refine W ?_
  refine LS_bxn rfl (sc_cons rfl (sc_cons (rd_sc hs) (sc_cons (rd_sc ho) rfl))) fun b1 => ?_
  try (dsimp only [st, setL, AV.cells, List.set_cons_zero, List.set_cons_succ, List.drop_zero, List.drop_succ_cons, List.take_zero, List.take_succ_cons, Nat.zero_add, Nat.add_zero, Nat.reduceAdd, List.cons_append, List.nil_append, List.eraseIdx_cons_zero, List.eraseIdx_cons_succ])
  refine W ?_
  refine LIL_nl (k := 1) ?_
  refine LIL_ind (fun n a L => ∃ (out : AV) (i : Int) (us : List AV), (∃ r : Nat → AV, a = [r 0, .p b1 0, r 2, out, .i .i64 i, r 5, r 6, r 7, r 8, r 9, r 10, r 11, r 12, r 13, r 14, r 15, r 16, r 17, r 18, r 19, r 20, r 21, r 22, r 23, r 24, r 25, r 26, r 27, r 28, r 29, r 30, r 31, r 32, r 33, r 34, r 35, r 36, r 37, r 38, r 39, r 40, r 41, r 42, r 43, r 44, r 45, r 46]) ∧ L = .sl out 1 (us.flatMap enV) :: .pt b1 [.i .i64 p.n, vs, vo] :: (rowsI us ((unitsE p.n.toNat).take i.toNat) ++ []) ∧ us.length = i.toNat ∧ 0 ≤ i ∧ i + n = p.n)
    p.n.toNat ⟨.ns, 0, [], exJ rfl, rfl, rfl, by omega, by omega⟩ ?_
  rintro n a L ⟨out, i, us, ⟨r, rfl⟩, rfl, hus, h0, hn⟩ IH
  have hul : us.length = ((unitsE p.n.toNat).take i.toNat).length := by rw [hus]; simp [unitsE]; omega
  refine W ?_
  (first | refine LS_gt rfl ?_ ?_ | refine LS_gf rfl ?_ ?_ | refine LI_cond rfl ?_ ?_) <;> intro hc <;> have hc' := hc <;> try simp only [decide_eq_true_eq, decide_eq_false_iff_not, Bool.not_eq_true', Bool.not_eq_false', Bool.not_eq_true, Bool.not_eq_false, beq_iff_eq, bne_iff_ne, beq_eq_false_iff_ne, bne_eq_false_iff_eq, Int.not_lt, Int.not_le, ge_iff_le, gt_iff_lt, not_and, ne_eq, Decidable.not_not] at hc'
  all_goals (try (dsimp only [st, setL, AV.cells, List.set_cons_zero, List.set_cons_succ, List.drop_zero, List.drop_succ_cons, List.take_zero, List.take_succ_cons, Nat.zero_add, Nat.add_zero, Nat.reduceAdd, List.cons_append, List.nil_append, List.eraseIdx_cons_zero, List.eraseIdx_cons_succ]))
  all_goals (refine W ?_)
  · refine LS_mk 0 rfl rfl rfl rfl rfl (by omega) (by omega) (by omega) enI1 rfl fun b2 => ?_
    try (dsimp only [st, setL, AV.cells, List.set_cons_zero, List.set_cons_succ, List.drop_zero, List.drop_succ_cons, List.take_zero, List.take_succ_cons, Nat.zero_add, Nat.add_zero, Nat.reduceAdd, List.cons_append, List.nil_append, List.eraseIdx_cons_zero, List.eraseIdx_cons_succ])
    refine W ?_
    refine LS_is h0 (by omega) rfl rfl ?_
    try (dsimp only [st, setL, AV.cells, List.set_cons_zero, List.set_cons_succ, List.drop_zero, List.drop_succ_cons, List.take_zero, List.take_succ_cons, Nat.zero_add, Nat.add_zero, Nat.reduceAdd, List.cons_append, List.nil_append, List.eraseIdx_cons_zero, List.eraseIdx_cons_succ])
    refine W ?_
    refine LS_ss 1 0 i.toNat rfl (by simp; omega) (by omega) rfl enI1 (by decide) rfl rfl rfl ?_
    try (dsimp only [st, setL, AV.cells, List.set_cons_zero, List.set_cons_succ, List.drop_zero, List.drop_succ_cons, List.take_zero, List.take_succ_cons, Nat.zero_add, Nat.add_zero, Nat.reduceAdd, List.cons_append, List.nil_append, List.eraseIdx_cons_zero, List.eraseIdx_cons_succ])
    refine W ?_
    rw [set_unit]
    refine LS_ltV rfl rfl rfl rfl fun lit hlit slit => ?_
    try (dsimp only [st, setL, AV.cells, List.set_cons_zero, List.set_cons_succ, List.drop_zero, List.drop_succ_cons, List.take_zero, List.take_succ_cons, Nat.zero_add, Nat.add_zero, Nat.reduceAdd, List.cons_append, List.nil_append, List.eraseIdx_cons_zero, List.eraseIdx_cons_succ])
    refine W ?_
    refine LS_ap 2 rfl (fun h' HL => HL.rdI 0 rfl enV1 (by decide)) enV1 (by decide) (by simp) (by simp; omega) (by simp; omega) rfl rfl rfl fun w hw sw => ?_
    try (dsimp only [st, setL, AV.cells, List.set_cons_zero, List.set_cons_succ, List.drop_zero, List.drop_succ_cons, List.take_zero, List.take_succ_cons, Nat.zero_add, Nat.add_zero, Nat.reduceAdd, List.cons_append, List.nil_append, List.eraseIdx_cons_zero, List.eraseIdx_cons_succ])
    refine W ?_
    refine LIL_drop 1 (LIL_push [_, _] hul ?_)
    refine IH (n - 1) _ _ (by omega) ⟨w, i + 1, us ++ [AV.sl b2 0 p.n.toNat true], exJ rfl, by rw [toNat_succ h0, unit_next (by omega)]; rfl, by rw [toNat_succ h0]; simp [hus], by omega, by omega⟩
  · have hi : i.toNat = p.n.toNat := by omega
    have e0 : (unitsE p.n.toNat).take i.toNat = expsT p 0 := by rw [hi, List.take_of_length_le (by simp [unitsE])]; rfl
    rw [e0]
    clear IH
    rw [e0] at hul
    refine LIL_rot 1 rfl (LIL_drop 1 ?_)
    refine LIL_ind (fun n a L => ∃ (out : AV) (i : Int) (us : List AV), (∃ r : Nat → AV, a = [r 0, r 1, r 2, out, r 4, r 5, r 6, r 7, r 8, r 9, r 10, r 11, r 12, r 13, r 14, r 15, r 16, r 17, r 18, r 19, r 20, r 21, r 22, r 23, r 24, vs, .i .i64 p.steps.length, .i .i64 i, r 28, r 29, r 30, r 31, r 32, r 33, r 34, r 35, r 36, r 37, r 38, r 39, r 40, r 41, r 42, r 43, r 44, r 45, r 46]) ∧ L = .sl out 1 (us.flatMap enV) :: (rowsI us (expsT p i.toNat) ++ []) ∧ us.length = (expsT p i.toNat).length ∧ 0 ≤ i ∧ i + n = p.steps.length)
      p.steps.length ⟨out, 0, us, exJ rfl, rfl, hul, by omega, by omega⟩ ?_
    rintro n a L ⟨out, i, us, ⟨r, rfl⟩, rfl, hul, h0, hn⟩ IH
    obtain ⟨hel, hro⟩ := expsT_ok hf hn0 i.toNat (by omega)
    refine W ?_
    (first | refine LS_gt rfl ?_ ?_ | refine LS_gf rfl ?_ ?_ | refine LI_cond rfl ?_ ?_) <;> intro hc <;> have hc' := hc <;> try simp only [decide_eq_true_eq, decide_eq_false_iff_not, Bool.not_eq_true', Bool.not_eq_false', Bool.not_eq_true, Bool.not_eq_false, beq_iff_eq, bne_iff_ne, beq_eq_false_iff_ne, bne_eq_false_iff_eq, Int.not_lt, Int.not_le, ge_iff_le, gt_iff_lt, not_and, ne_eq, Decidable.not_not] at hc'
    all_goals (try (dsimp only [st, setL, AV.cells, List.set_cons_zero, List.set_cons_succ, List.drop_zero, List.drop_succ_cons, List.take_zero, List.take_succ_cons, Nat.zero_add, Nat.add_zero, Nat.reduceAdd, List.cons_append, List.nil_append, List.eraseIdx_cons_zero, List.eraseIdx_cons_succ]))
    all_goals (refine W ?_)
    · obtain ⟨s, hs', _, _⟩ := drop_at h0 hc'
      have hb := formedS_get hf hs'
      obtain ⟨u, hu⟩ := at_ (l := us) (i := s.1.toNat) (by omega)
      obtain ⟨u', hu'⟩ := at_ (l := us) (i := s.2.toNat) (by omega)
      have hx := getD_get (ll := expsT p i.toNat) (i := s.1.toNat) (by omega)
      have hy := getD_get (ll := expsT p i.toNat) (i := s.2.toNat) (by omega)
      have rx := hro _ (List.mem_of_getElem? hx)
      have ry := hro _ (List.mem_of_getElem? hy)
      refine LS_ix (fun h' HL => hs.le HL.le) enStep2 hs' h0 rfl rfl fun b o hrow => ?_
      try (dsimp only [st, setL, AV.cells, List.set_cons_zero, List.set_cons_succ, List.drop_zero, List.drop_succ_cons, List.take_zero, List.take_succ_cons, Nat.zero_add, Nat.add_zero, Nat.reduceAdd, List.cons_append, List.nil_append, List.eraseIdx_cons_zero, List.eraseIdx_cons_succ])
      refine W ?_
      refine LS_al rfl fun b5 => ?_
      try (dsimp only [st, setL, AV.cells, List.set_cons_zero, List.set_cons_succ, List.drop_zero, List.drop_succ_cons, List.take_zero, List.take_succ_cons, Nat.zero_add, Nat.add_zero, Nat.reduceAdd, List.cons_append, List.nil_append, List.eraseIdx_cons_zero, List.eraseIdx_cons_succ])
      refine W ?_
      refine dz114_0 ?_
      refine WX ?_
      refine W ?_
      refine LX_ix (fun h' HL => HL.rdI 1 rfl enV1 (by decide)) enV1 hu (by omega) rfl rfl noG fun q o2 hrow2 => ?_
      try (dsimp only [st, setL, AV.cells, List.set_cons_zero, List.set_cons_succ, List.drop_zero, List.drop_succ_cons, List.take_zero, List.take_succ_cons, Nat.zero_add, Nat.add_zero, Nat.reduceAdd, List.cons_append, List.nil_append, List.eraseIdx_cons_zero, List.eraseIdx_cons_succ])
      refine WX ?_
      refine W ?_
      refine LX_ix (fun h' HL => HL.rdI 1 rfl enV1 (by decide)) enV1 hu' (by omega) rfl rfl noG fun q' o3 hrow3 => ?_
      try (dsimp only [st, setL, AV.cells, List.set_cons_zero, List.set_cons_succ, List.drop_zero, List.drop_succ_cons, List.take_zero, List.take_succ_cons, Nat.zero_add, Nat.add_zero, Nat.reduceAdd, List.cons_append, List.nil_append, List.eraseIdx_cons_zero, List.eraseIdx_cons_succ])
      refine WX ?_
      refine W ?_
      refine LX_co (fun h' HL wf => plSum_ac _ _ u u' h'.frz (HL.rdM (List.mem_cons_of_mem _ (List.mem_cons_of_mem _ (List.mem_append_left _ (rowsI_get hu hx)))) enI1 (by decide)).frz (HL.rdM (List.mem_cons_of_mem _ (List.mem_cons_of_mem _ (List.mem_append_left _ (rowsI_get hu' hy)))) enI1 (by decide)).frz (by omega) (by omega) rx.2 ry.2) enI1 rfl rfl noG fun w1 hw1 sw1 => ?_
      try (dsimp only [st, setL, AV.cells, List.set_cons_zero, List.set_cons_succ, List.drop_zero, List.drop_succ_cons, List.take_zero, List.take_succ_cons, Nat.zero_add, Nat.add_zero, Nat.reduceAdd, List.cons_append, List.nil_append, List.eraseIdx_cons_zero, List.eraseIdx_cons_succ])
      refine WX ?_
      refine W ?_
      refine LX_ltV rfl rfl sw1 rfl noG fun lit hlit slit => ?_
      try (dsimp only [st, setL, AV.cells, List.set_cons_zero, List.set_cons_succ, List.drop_zero, List.drop_succ_cons, List.take_zero, List.take_succ_cons, Nat.zero_add, Nat.add_zero, Nat.reduceAdd, List.cons_append, List.nil_append, List.eraseIdx_cons_zero, List.eraseIdx_cons_succ])
      refine WX ?_
      refine W ?_
      refine LX_f noG (LO_ap 3 rfl (fun h' HL => HL.rdI 0 rfl enV1 (by decide)) enV1 (by decide) (by simp) (by simp; omega) (by simp; omega) rfl rfl rfl fun w hw sw => ?_)
      try (dsimp only [st, setL, AV.cells, List.set_cons_zero, List.set_cons_succ, List.drop_zero, List.drop_succ_cons, List.take_zero, List.take_succ_cons, Nat.zero_add, Nat.add_zero, Nat.reduceAdd, List.cons_append, List.nil_append, List.eraseIdx_cons_zero, List.eraseIdx_cons_succ])
      refine WX ?_
      refine W ?_
      refine LIL_drop 1 (LIL_rot 1 rfl (LIL_drop 1 (LIL_push [_] hul ?_)))
      refine IH (n - 1) _ _ (by omega) ⟨w, i + 1, us ++ [w1], exJ rfl, by rw [toNat_succ h0, expsT_succ hs']; rfl, by rw [toNat_succ h0, expsT_succ hs']; simp [stepE, hul], by omega, by omega⟩
    · have e : i.toNat = p.steps.length := by omega
      rw [e, expsT_end] at hul
      rw [e, expsT_end]
      refine RET fun h' HL => ?_
      try dsimp only [oneA]
      have hO := HL.rdI 0 rfl enV1 (by decide)
      exact ⟨_, ⟨us, hul, hO.len, rd_sc hO, rfl⟩, HL⟩

/-! ### What a plan is -/
def planForm (p : PlanM) : Bool := decide (1 ≤ p.n ∧ p.n ≤ 6) && (decide ((p.steps.length : Int) ≤ 40) && (decide ((p.outs.length : Int) ≤ 6) && formedS p.n 0 p.steps))

def smallE (p : PlanM) : Bool := (expsE p).all fun r => r.all fun x => decide (0 ≤ x ∧ x ≤ 1000000)

def outsOk (p : PlanM) : Bool := p.outs.all fun v => decide (0 ≤ v ∧ v ≤ p.n + p.steps.length - 1)

def planOk (p : PlanM) : Bool := planForm p && (smallE p && outsOk p)

theorem planForm_out {p : PlanM} (h : planForm p = true) : 1 ≤ p.n ∧ p.n ≤ 6 ∧ p.steps.length ≤ 40 ∧ p.outs.length ≤ 6 ∧ formedS p.n 0 p.steps = true := by
  simp only [planForm, Bool.and_eq_true, decide_eq_true_eq] at h
  obtain ⟨⟨h1, h2⟩, h3, h4, h5⟩ := h
  exact ⟨h1, h2, by omega, by omega, h5⟩

theorem formedS_drop {n : Int} {l : List (Int × Int)} {i : Nat} {s : Int × Int} (hd : l.drop i = s :: l.drop (i + 1)) : formedS n i (l.drop i) = (decide (0 ≤ s.1 ∧ s.1 ≤ s.2 ∧ s.2 < n + i) && formedS n (i + 1) (l.drop (i + 1))) := by rw [hd, formedS]

theorem rowsI_in {us : List AV} {ll : List (List Int)} {i : Nat} {u : AV} {l : List Int} {B : List It} (hu : us[i]? = some u) (hl : ll[i]? = some l) : It.sl u 1 (l.flatMap enI) ∈ rowsI us ll ++ B := List.mem_append_left _ (rowsI_get hu hl)

theorem plGood_ac (p : PlanM) (v : AV) (h : AH) (hR : PlR h v p) (hw : inI p.n) (hl : p.steps.length ≤ 1048576) (hl2 : p.outs.length ≤ 1048576) (hw2 : ∀ s ∈ p.steps, inI s.1 ∧ inI s.2) :
    AC Try.prog 59 [v] h (fun r h' => r = .b (planOk p) ∧ h.le h') := by
  have hR0 := hR
  obtain ⟨vs, vo, rfl, hs, ho⟩ := hR
  have bad : planForm p = false → planOk p = false := fun e => by simp only [planOk, e, Bool.false_and]
  refine e59 _ fun wf => ?_
  unfold c59
  refine LI_start wf ?_
  refine W ?_
  refine LS_bxn rfl (sc_cons rfl (sc_cons (rd_sc hs) (sc_cons (rd_sc ho) rfl))) fun b1 => ?_
  try (dsimp only [st, setL, AV.cells, List.set_cons_zero, List.set_cons_succ, List.drop_zero, List.drop_succ_cons, List.take_zero, List.take_succ_cons, Nat.zero_add, Nat.add_zero, Nat.reduceAdd, List.cons_append, List.nil_append, List.eraseIdx_cons_zero, List.eraseIdx_cons_succ])
  refine W ?_
  refine LS_c0' (fun h' HL wf => l1In_ac p.n 1 6 h') rfl rfl ?_
  try (dsimp only [st, setL, AV.cells, List.set_cons_zero, List.set_cons_succ, List.drop_zero, List.drop_succ_cons, List.take_zero, List.take_succ_cons, Nat.zero_add, Nat.add_zero, Nat.reduceAdd, List.cons_append, List.nil_append, List.eraseIdx_cons_zero, List.eraseIdx_cons_succ])
  refine W ?_
  (first | refine LS_gt rfl ?_ ?_ | refine LS_gf rfl ?_ ?_ | refine LI_cond rfl ?_ ?_) <;> intro hc <;> have hc' := hc <;> try simp only [decide_eq_true_eq, decide_eq_false_iff_not, Bool.not_eq_true', Bool.not_eq_false', Bool.not_eq_true, Bool.not_eq_false, beq_iff_eq, bne_iff_ne, beq_eq_false_iff_ne, bne_eq_false_iff_eq, Int.not_lt, Int.not_le, ge_iff_le, gt_iff_lt, not_and, ne_eq, Decidable.not_not] at hc'
  all_goals (try (dsimp only [st, setL, AV.cells, List.set_cons_zero, List.set_cons_succ, List.drop_zero, List.drop_succ_cons, List.take_zero, List.take_succ_cons, Nat.zero_add, Nat.add_zero, Nat.reduceAdd, List.cons_append, List.nil_append, List.eraseIdx_cons_zero, List.eraseIdx_cons_succ]))
  all_goals (refine W ?_)
  · have hn := of_decide_eq_true (nf hc)
    (first | refine LS_gt rfl ?_ ?_ | refine LS_gf rfl ?_ ?_ | refine LI_cond rfl ?_ ?_) <;> intro hc <;> have hc' := hc <;> try simp only [decide_eq_true_eq, decide_eq_false_iff_not, Bool.not_eq_true', Bool.not_eq_false', Bool.not_eq_true, Bool.not_eq_false, beq_iff_eq, bne_iff_ne, beq_eq_false_iff_ne, bne_eq_false_iff_eq, Int.not_lt, Int.not_le, ge_iff_le, gt_iff_lt, not_and, ne_eq, Decidable.not_not] at hc'
    all_goals (try (dsimp only [st, setL, AV.cells, List.set_cons_zero, List.set_cons_succ, List.drop_zero, List.drop_succ_cons, List.take_zero, List.take_succ_cons, Nat.zero_add, Nat.add_zero, Nat.reduceAdd, List.cons_append, List.nil_append, List.eraseIdx_cons_zero, List.eraseIdx_cons_succ]))
    all_goals (refine W ?_)
    · have hl40 := hc'
      (first | refine LS_gt rfl ?_ ?_ | refine LS_gf rfl ?_ ?_ | refine LI_cond rfl ?_ ?_) <;> intro hc <;> have hc' := hc <;> try simp only [decide_eq_true_eq, decide_eq_false_iff_not, Bool.not_eq_true', Bool.not_eq_false', Bool.not_eq_true, Bool.not_eq_false, beq_iff_eq, bne_iff_ne, beq_eq_false_iff_ne, bne_eq_false_iff_eq, Int.not_lt, Int.not_le, ge_iff_le, gt_iff_lt, not_and, ne_eq, Decidable.not_not] at hc'
      all_goals (try (dsimp only [st, setL, AV.cells, List.set_cons_zero, List.set_cons_succ, List.drop_zero, List.drop_succ_cons, List.take_zero, List.take_succ_cons, Nat.zero_add, Nat.add_zero, Nat.reduceAdd, List.cons_append, List.nil_append, List.eraseIdx_cons_zero, List.eraseIdx_cons_succ]))
      all_goals (refine W ?_)
      · rw [bad (by simp only [planForm]; simp; omega)]
        refine RET fun h' HL => ?_
        try dsimp only [oneA]
        exact ⟨rfl, HL.le⟩
      · have ho6 := hc'
        have hpf : planForm p = formedS p.n 0 p.steps := by
          simp only [planForm, hn, and_self, decide_true, Bool.true_and]
          rw [decide_eq_true (by omega), decide_eq_true (by omega)]
          simp
        refine LIL_ind (fun n a L => ∃ (i : Int), (∃ r : Nat → AV, a = [r 0, .p b1 0, r 2, r 3, r 4, r 5, r 6, r 7, r 8, r 9, r 10, r 11, r 12, r 13, r 14, r 15, r 16, r 17, r 18, r 19, r 20, r 21, r 22, r 23, vs, .i .i64 p.steps.length, .i .i64 i, r 27, r 28, r 29, r 30, r 31, r 32, r 33, r 34, r 35, r 36, r 37, r 38, r 39, r 40, r 41, r 42, r 43, r 44, r 45, r 46, r 47, r 48, r 49, r 50, r 51, r 52, r 53, r 54, r 55, r 56, r 57, r 58, r 59, r 60, r 61, r 62, r 63, r 64, r 65, r 66, r 67]) ∧ L = [.pt b1 [.i .i64 p.n, vs, vo]] ∧ 0 ≤ i ∧ i + n = p.steps.length ∧ formedS p.n 0 p.steps = formedS p.n i.toNat (p.steps.drop i.toNat))
          p.steps.length ⟨0, exJ rfl, rfl, by omega, by omega, rfl⟩ ?_
        rintro n a L ⟨i, ⟨r, rfl⟩, rfl, h0, hni, hfs⟩ IH
        refine W ?_
        (first | refine LS_gt rfl ?_ ?_ | refine LS_gf rfl ?_ ?_ | refine LI_cond rfl ?_ ?_) <;> intro hc <;> have hc' := hc <;> try simp only [decide_eq_true_eq, decide_eq_false_iff_not, Bool.not_eq_true', Bool.not_eq_false', Bool.not_eq_true, Bool.not_eq_false, beq_iff_eq, bne_iff_ne, beq_eq_false_iff_ne, bne_eq_false_iff_eq, Int.not_lt, Int.not_le, ge_iff_le, gt_iff_lt, not_and, ne_eq, Decidable.not_not] at hc'
        all_goals (try (dsimp only [st, setL, AV.cells, List.set_cons_zero, List.set_cons_succ, List.drop_zero, List.drop_succ_cons, List.take_zero, List.take_succ_cons, Nat.zero_add, Nat.add_zero, Nat.reduceAdd, List.cons_append, List.nil_append, List.eraseIdx_cons_zero, List.eraseIdx_cons_succ]))
        all_goals (refine W ?_)
        · obtain ⟨s, hs', hsm, hd⟩ := drop_at h0 hc'
          have hws := hw2 s hsm
          rw [formedS_drop hd] at hfs
          refine LS_ix (fun h' HL => hs.le HL.le) enStep2 hs' h0 rfl rfl fun b o hrow => ?_
          try (dsimp only [st, setL, AV.cells, List.set_cons_zero, List.set_cons_succ, List.drop_zero, List.drop_succ_cons, List.take_zero, List.take_succ_cons, Nat.zero_add, Nat.add_zero, Nat.reduceAdd, List.cons_append, List.nil_append, List.eraseIdx_cons_zero, List.eraseIdx_cons_succ])
          refine W ?_
          refine LS_al rfl fun b3 => ?_
          try (dsimp only [st, setL, AV.cells, List.set_cons_zero, List.set_cons_succ, List.drop_zero, List.drop_succ_cons, List.take_zero, List.take_succ_cons, Nat.zero_add, Nat.add_zero, Nat.reduceAdd, List.cons_append, List.nil_append, List.eraseIdx_cons_zero, List.eraseIdx_cons_succ])
          refine W ?_
          refine LS_c0' (fun h' HL wf => l1In_ac s.1 0 s.2 h') rfl rfl ?_
          try (dsimp only [st, setL, AV.cells, List.set_cons_zero, List.set_cons_succ, List.drop_zero, List.drop_succ_cons, List.take_zero, List.take_succ_cons, Nat.zero_add, Nat.add_zero, Nat.reduceAdd, List.cons_append, List.nil_append, List.eraseIdx_cons_zero, List.eraseIdx_cons_succ])
          refine W ?_
          (first | refine LS_gt rfl ?_ ?_ | refine LS_gf rfl ?_ ?_ | refine LI_cond rfl ?_ ?_) <;> intro hc <;> have hc' := hc <;> try simp only [decide_eq_true_eq, decide_eq_false_iff_not, Bool.not_eq_true', Bool.not_eq_false', Bool.not_eq_true, Bool.not_eq_false, beq_iff_eq, bne_iff_ne, beq_eq_false_iff_ne, bne_eq_false_iff_eq, Int.not_lt, Int.not_le, ge_iff_le, gt_iff_lt, not_and, ne_eq, Decidable.not_not] at hc'
          all_goals (try (dsimp only [st, setL, AV.cells, List.set_cons_zero, List.set_cons_succ, List.drop_zero, List.drop_succ_cons, List.take_zero, List.take_succ_cons, Nat.zero_add, Nat.add_zero, Nat.reduceAdd, List.cons_append, List.nil_append, List.eraseIdx_cons_zero, List.eraseIdx_cons_succ]))
          all_goals (refine W ?_)
          · have hs12 := of_decide_eq_true (nf hc)
            (first | refine LS_gt rfl ?_ ?_ | refine LS_gf rfl ?_ ?_ | refine LI_cond rfl ?_ ?_) <;> intro hc <;> have hc' := hc <;> try simp only [decide_eq_true_eq, decide_eq_false_iff_not, Bool.not_eq_true', Bool.not_eq_false', Bool.not_eq_true, Bool.not_eq_false, beq_iff_eq, bne_iff_ne, beq_eq_false_iff_ne, bne_eq_false_iff_eq, Int.not_lt, Int.not_le, ge_iff_le, gt_iff_lt, not_and, ne_eq, Decidable.not_not] at hc'
            all_goals (try (dsimp only [st, setL, AV.cells, List.set_cons_zero, List.set_cons_succ, List.drop_zero, List.drop_succ_cons, List.take_zero, List.take_succ_cons, Nat.zero_add, Nat.add_zero, Nat.reduceAdd, List.cons_append, List.nil_append, List.eraseIdx_cons_zero, List.eraseIdx_cons_succ]))
            all_goals (refine W ?_)
            · rw [bad (by rw [hpf, hfs, decide_eq_false (by omega)]; rfl)]
              refine RET fun h' HL => ?_
              try dsimp only [oneA]
              exact ⟨rfl, HL.le⟩
            · refine LIL_drop 1 ?_
              refine IH (n - 1) _ _ (by omega) ⟨i + 1, exJ rfl, rfl, by omega, by omega, ?_⟩
              rw [hfs, decide_eq_true (by omega), Bool.true_and, toNat_succ h0]
          · have hs12 := of_decide_eq_false (nt hc)
            rw [bad (by rw [hpf, hfs, decide_eq_false (by omega)]; rfl)]
            refine RET fun h' HL => ?_
            try dsimp only [oneA]
            exact ⟨rfl, HL.le⟩
        · have e : i.toNat = p.steps.length := by omega
          rw [e, List.drop_length] at hfs
          have hfs' : formedS p.n 0 p.steps = true := hfs
          have hok : planOk p = (smallE p && outsOk p) := by simp only [planOk, hpf, hfs', Bool.true_and]
          clear IH
          refine LS_c1 (fun h' HL wf => plExponents_ac p _ h' (hR0.le HL.le) hn.1 hn.2 (by omega) hfs') rfl rfl ?_
          try (dsimp only [st, setL, AV.cells, List.set_cons_zero, List.set_cons_succ, List.drop_zero, List.drop_succ_cons, List.take_zero, List.take_succ_cons, Nat.zero_add, Nat.add_zero, Nat.reduceAdd, List.cons_append, List.nil_append, List.eraseIdx_cons_zero, List.eraseIdx_cons_succ])
          refine W ?_
          rintro ex M ⟨us, hus, hrl, hrs, rfl⟩
          have hlen := (expsT_ok hfs' hn.1 p.steps.length (Nat.le_refl _)).1
          rw [expsT_end] at hlen
          try (dsimp only [st, setL, AV.cells, List.set_cons_zero, List.set_cons_succ, List.drop_zero, List.drop_succ_cons, List.take_zero, List.take_succ_cons, Nat.zero_add, Nat.add_zero, Nat.reduceAdd, List.cons_append, List.nil_append, List.eraseIdx_cons_zero, List.eraseIdx_cons_succ])
          unfold ssI
          refine W ?_
          refine LIL_ind (fun n a L => ∃ (i : Int), (∃ r : Nat → AV, a = [r 0, .p b1 0, r 2, r 3, r 4, r 5, r 6, r 7, r 8, r 9, r 10, r 11, r 12, r 13, r 14, r 15, r 16, r 17, r 18, r 19, r 20, r 21, r 22, r 23, r 24, r 25, r 26, r 27, r 28, r 29, r 30, r 31, r 32, r 33, r 34, r 35, r 36, r 37, r 38, r 39, r 40, r 41, r 42, r 43, r 44, r 45, r 46, r 47, ex, .i .i64 us.length, .i .i64 i, r 51, r 52, r 53, r 54, r 55, r 56, r 57, r 58, r 59, r 60, r 61, r 62, r 63, r 64, r 65, r 66, r 67]) ∧ L = .sl ex 1 (us.flatMap enV) :: (rowsI us (expsE p) ++ [] ++ [.pt b1 [.i .i64 p.n, vs, vo]]) ∧ 0 ≤ i ∧ i + n = us.length ∧ smallE p = ((expsE p).drop i.toNat).all fun r => r.all fun x => decide (0 ≤ x ∧ x ≤ 1000000))
            us.length ⟨0, exJ rfl, rfl, by omega, by omega, rfl⟩ ?_
          rintro n a L ⟨i, ⟨r, rfl⟩, rfl, h0, hni, hsm⟩ IH
          refine W ?_
          (first | refine LS_gt rfl ?_ ?_ | refine LS_gf rfl ?_ ?_ | refine LI_cond rfl ?_ ?_) <;> intro hc <;> have hc' := hc <;> try simp only [decide_eq_true_eq, decide_eq_false_iff_not, Bool.not_eq_true', Bool.not_eq_false', Bool.not_eq_true, Bool.not_eq_false, beq_iff_eq, bne_iff_ne, beq_eq_false_iff_ne, bne_eq_false_iff_eq, Int.not_lt, Int.not_le, ge_iff_le, gt_iff_lt, not_and, ne_eq, Decidable.not_not] at hc'
          all_goals (try (dsimp only [st, setL, AV.cells, List.set_cons_zero, List.set_cons_succ, List.drop_zero, List.drop_succ_cons, List.take_zero, List.take_succ_cons, Nat.zero_add, Nat.add_zero, Nat.reduceAdd, List.cons_append, List.nil_append, List.eraseIdx_cons_zero, List.eraseIdx_cons_succ]))
          all_goals (refine W ?_)
          · obtain ⟨u, hu, _, _⟩ := drop_at (l := us) h0 hc'
            obtain ⟨e, he, hem, hd⟩ := drop_at (l := expsE p) h0 (by omega)
            have hel := (expsT_ok hfs' hn.1 p.steps.length (Nat.le_refl _)).2
            rw [expsT_end] at hel
            have hel6 := (hel e hem).1
            rw [hd, List.all_cons] at hsm
            refine LS_ix (fun h' HL => HL.rdI 0 rfl enV1 (by decide)) enV1 hu h0 rfl rfl fun b o hrow => ?_
            try (dsimp only [st, setL, AV.cells, List.set_cons_zero, List.set_cons_succ, List.drop_zero, List.drop_succ_cons, List.take_zero, List.take_succ_cons, Nat.zero_add, Nat.add_zero, Nat.reduceAdd, List.cons_append, List.nil_append, List.eraseIdx_cons_zero, List.eraseIdx_cons_succ])
            refine W ?_
            refine LS_c0' (fun h' HL wf => l1All_ac e u 0 1000000 h' (HL.rdM (List.mem_cons_of_mem _ (List.mem_append_left _ (rowsI_in hu he))) enI1 (by decide)) (by omega)) rfl rfl ?_
            try (dsimp only [st, setL, AV.cells, List.set_cons_zero, List.set_cons_succ, List.drop_zero, List.drop_succ_cons, List.take_zero, List.take_succ_cons, Nat.zero_add, Nat.add_zero, Nat.reduceAdd, List.cons_append, List.nil_append, List.eraseIdx_cons_zero, List.eraseIdx_cons_succ])
            refine W ?_
            (first | refine LS_gt rfl ?_ ?_ | refine LS_gf rfl ?_ ?_ | refine LI_cond rfl ?_ ?_) <;> intro hc <;> have hc' := hc <;> try simp only [decide_eq_true_eq, decide_eq_false_iff_not, Bool.not_eq_true', Bool.not_eq_false', Bool.not_eq_true, Bool.not_eq_false, beq_iff_eq, bne_iff_ne, beq_eq_false_iff_ne, bne_eq_false_iff_eq, Int.not_lt, Int.not_le, ge_iff_le, gt_iff_lt, not_and, ne_eq, Decidable.not_not] at hc'
            all_goals (try (dsimp only [st, setL, AV.cells, List.set_cons_zero, List.set_cons_succ, List.drop_zero, List.drop_succ_cons, List.take_zero, List.take_succ_cons, Nat.zero_add, Nat.add_zero, Nat.reduceAdd, List.cons_append, List.nil_append, List.eraseIdx_cons_zero, List.eraseIdx_cons_succ]))
            all_goals (refine W ?_)
            · rw [hok, hsm, nt hc]
              refine RET fun h' HL => ?_
              try dsimp only [oneA]
              exact ⟨rfl, HL.le⟩
            · refine IH (n - 1) _ _ (by omega) ⟨i + 1, exJ rfl, rfl, by omega, by omega, ?_⟩
              rw [hsm, nf hc, Bool.true_and, toNat_succ h0]
          · rw [List.drop_eq_nil_of_le (by omega)] at hsm
            have hsm' : smallE p = true := hsm
            refine LS_rot (x := .pt b1 [.i .i64 p.n, vs, vo]) ((rowsI us (expsE p) ++ []).length + 1) (by simp) ?_
            refine W ?_
            refine LS_c0' (fun h' HL wf => l1All_ac p.outs vo 0 (p.n + p.steps.length - 1) h' (ho.le HL.le) (by omega)) rfl rfl ?_
            try (dsimp only [st, setL, AV.cells, List.set_cons_zero, List.set_cons_succ, List.drop_zero, List.drop_succ_cons, List.take_zero, List.take_succ_cons, Nat.zero_add, Nat.add_zero, Nat.reduceAdd, List.cons_append, List.nil_append, List.eraseIdx_cons_zero, List.eraseIdx_cons_succ])
            refine W ?_
            rw [hok, hsm', Bool.true_and]
            refine RET fun h' HL => ?_
            try dsimp only [oneA]
            exact ⟨rfl, HL.le⟩
    · rw [bad (by simp only [planForm]; simp; omega)]
      refine RET fun h' HL => ?_
      try dsimp only [oneA]
      exact ⟨rfl, HL.le⟩
  · have hn := of_decide_eq_false (nt hc)
    rw [bad (by simp only [planForm, decide_eq_false hn, Bool.false_and])]
    refine RET fun h' HL => ?_
    try dsimp only [oneA]
    exact ⟨rfl, HL.le⟩

/-! ### The same of the program -/
theorem IndexFuncSS_ac (ll : List (List Int)) (us : List AV) (v : AV) (g : FuncId) (caps : List AV) (q : List Int → Bool) (h : AH) (hR : RdG 1 enV h v us) (hlen : us.length = ll.length) (hl : us.length ≤ 4611686018427387904)
    (hp : ∀ (i : Nat) (u : AV) (x : List Int), us[i]? = some u → ll[i]? = some x → ∀ h', h.le h' → AC Try.prog g (u :: caps) h' (fun r h'' => r = .b (q x) ∧ h'.le h'')) :
    AC Try.prog 136 [v, .f g caps] h (fun r h' => r = .i .i64 (idxFrom q ll 0) ∧ h.le h') := by
  refine e136 _ _ fun wf => ?_
  unfold c136
  refine LI_start wf ?_
  refine W ?_
  refine LIL_ind (fun n a L => ∃ (i : Int), (∃ r : Nat → AV, a = [v, .f g caps, r 2, r 3, r 4, r 5, v, .i .i64 us.length, .i .i64 i, r 9, r 10, r 11, r 12, r 13, r 14, r 15, r 16, r 17, r 18]) ∧ L = [] ∧ 0 ≤ i ∧ i + n = us.length ∧ idxFrom q ll 0 = idxFrom q (ll.drop i.toNat) i)
    us.length ⟨0, exJ rfl, rfl, by omega, by omega, rfl⟩ ?_
  rintro n a L ⟨i, ⟨r, rfl⟩, rfl, h0, hn, hidx⟩ IH
  refine W ?_
  (first | refine LS_gt rfl ?_ ?_ | refine LS_gf rfl ?_ ?_ | refine LI_cond rfl ?_ ?_) <;> intro hc <;> have hc' := hc <;> try simp only [decide_eq_true_eq, decide_eq_false_iff_not, Bool.not_eq_true', Bool.not_eq_false', Bool.not_eq_true, Bool.not_eq_false, beq_iff_eq, bne_iff_ne, beq_eq_false_iff_ne, bne_eq_false_iff_eq, Int.not_lt, Int.not_le, ge_iff_le, gt_iff_lt, not_and, ne_eq, Decidable.not_not] at hc'
  all_goals (try (dsimp only [st, setL, AV.cells, List.set_cons_zero, List.set_cons_succ, List.drop_zero, List.drop_succ_cons, List.take_zero, List.take_succ_cons, Nat.zero_add, Nat.add_zero, Nat.reduceAdd, List.cons_append, List.nil_append, List.eraseIdx_cons_zero, List.eraseIdx_cons_succ]))
  all_goals (refine W ?_)
  · obtain ⟨u, hu, _, _⟩ := drop_at (l := us) h0 hc'
    obtain ⟨y, hy, hym, hd⟩ := drop_at (l := ll) h0 (by omega)
    rw [hd] at hidx
    refine LS_ix (fun h' HL => hR.le HL.le) enV1 hu h0 rfl rfl fun b o hrow => ?_
    try (dsimp only [st, setL, AV.cells, List.set_cons_zero, List.set_cons_succ, List.drop_zero, List.drop_succ_cons, List.take_zero, List.take_succ_cons, Nat.zero_add, Nat.add_zero, Nat.reduceAdd, List.cons_append, List.nil_append, List.eraseIdx_cons_zero, List.eraseIdx_cons_succ])
    refine W ?_
    refine LS_c0 (fun h' HL wf => hp i.toNat u y hu hy h' HL.le) rfl rfl ?_
    try (dsimp only [st, setL, AV.cells, List.set_cons_zero, List.set_cons_succ, List.drop_zero, List.drop_succ_cons, List.take_zero, List.take_succ_cons, Nat.zero_add, Nat.add_zero, Nat.reduceAdd, List.cons_append, List.nil_append, List.eraseIdx_cons_zero, List.eraseIdx_cons_succ])
    refine W ?_
    (first | refine LS_gt rfl ?_ ?_ | refine LS_gf rfl ?_ ?_ | refine LI_cond rfl ?_ ?_) <;> intro hc <;> have hc' := hc <;> try simp only [decide_eq_true_eq, decide_eq_false_iff_not, Bool.not_eq_true', Bool.not_eq_false', Bool.not_eq_true, Bool.not_eq_false, beq_iff_eq, bne_iff_ne, beq_eq_false_iff_ne, bne_eq_false_iff_eq, Int.not_lt, Int.not_le, ge_iff_le, gt_iff_lt, not_and, ne_eq, Decidable.not_not] at hc'
    all_goals (try (dsimp only [st, setL, AV.cells, List.set_cons_zero, List.set_cons_succ, List.drop_zero, List.drop_succ_cons, List.take_zero, List.take_succ_cons, Nat.zero_add, Nat.add_zero, Nat.reduceAdd, List.cons_append, List.nil_append, List.eraseIdx_cons_zero, List.eraseIdx_cons_succ]))
    all_goals (refine W ?_)
    · refine RET fun h' HL => ?_
      try dsimp only [oneA]
      refine ⟨?_, HL.le⟩
      rw [hidx]
      simp [idxFrom, hc]
    · refine IH (n - 1) _ _ (by omega) ⟨i + 1, exJ rfl, rfl, by omega, by omega, ?_⟩
      rw [hidx, toNat_succ h0]
      simp [idxFrom, hc]
  · refine RET fun h' HL => ?_
    try dsimp only [oneA]
    refine ⟨?_, HL.le⟩
    rw [hidx, List.drop_eq_nil_of_le (by omega)]
    rfl

theorem ContainsFuncSS_ac (ll : List (List Int)) (us : List AV) (v : AV) (g : FuncId) (caps : List AV) (q : List Int → Bool) (h : AH) (hR : RdG 1 enV h v us) (hlen : us.length = ll.length) (hl : us.length ≤ 4611686018427387904)
    (hp : ∀ (i : Nat) (u : AV) (x : List Int), us[i]? = some u → ll[i]? = some x → ∀ h', h.le h' → AC Try.prog g (u :: caps) h' (fun r h'' => r = .b (q x) ∧ h'.le h'')) :
    AC Try.prog 111 [v, .f g caps] h (fun r h' => r = .b (ll.any q) ∧ h.le h') := by
  refine e111 _ _ fun wf => ?_
  unfold c111
  refine LI_start wf ?_
  refine W ?_
  refine LS_c0 (fun h' HL wf => IndexFuncSS_ac ll us v g caps q h' (hR.le HL.le) hlen hl (fun i u x hu hx h2 hle => hp i u x hu hx h2 (HL.le.trans hle))) rfl rfl ?_
  try (dsimp only [st, setL, AV.cells, List.set_cons_zero, List.set_cons_succ, List.drop_zero, List.drop_succ_cons, List.take_zero, List.take_succ_cons, Nat.zero_add, Nat.add_zero, Nat.reduceAdd, List.cons_append, List.nil_append, List.eraseIdx_cons_zero, List.eraseIdx_cons_succ])
  refine W ?_
  refine RET fun h' HL => ?_
  try dsimp only [oneA]
  refine ⟨?_, HL.le⟩
  simp only [← idxFrom_any q ll 0 (by omega), ge_iff_le]

structure PlP (h : AH) (b : Nat) (p : PlanM) (vs vo : AV) : Prop where
  row : h.row b 0 3 = some [.i .i64 p.n, vs, vo]
  steps : RdG 2 enStep h vs p.steps
  outs : Rd h vo p.outs

theorem PlP.le {h h' : AH} {b : Nat} {p : PlanM} {vs vo : AV} (H : PlP h b p vs vo) (hle : h.le h') : PlP h' b p vs vo := ⟨hle.row H.row, H.steps.le hle, H.outs.le hle⟩

theorem PlP.frz {h : AH} {b : Nat} {p : PlanM} {vs vo : AV} (H : PlP h b p vs vo) : PlP h.frz b p vs vo := ⟨H.row, H.steps.frz, H.outs.frz⟩

theorem PlP.c0 {h : AH} {b : Nat} {p : PlanM} {vs vo : AV} (H : PlP h b p vs vo) : h.cell b 0 = some (.i .i64 p.n) := row_cell H.row (j := 0) (by decide)

theorem PlP.c1 {h : AH} {b : Nat} {p : PlanM} {vs vo : AV} (H : PlP h b p vs vo) : h.cell b 1 = some vs := row_cell H.row (j := 1) (by decide)

theorem PlP.c2 {h : AH} {b : Nat} {p : PlanM} {vs vo : AV} (H : PlP h b p vs vo) : h.cell b 2 = some vo := row_cell H.row (j := 2) (by decide)

theorem many_ac (p : PlanM) (b : Nat) (vs vo : AV) (h : AH) (hp : PlP h b p vs vo) (hb0 : -10 ≤ p.n) (hb1 : p.n ≤ 1048576) (hl : p.steps.length ≤ 1048576) :
    AC Try.prog 58 [.p b 0] h (fun r h' => r = .i .i64 (p.n + p.steps.length) ∧ h.le h') := by
  have c0 := hp.c0
  have c1 := hp.c1
  have hs := hp.steps
  refine e58 _ fun wf => ?_
  unfold c58
  refine LI_start wf ?_
  refine W ?_
  refine dz58_0 ?_
  refine WX ?_
  refine W ?_
  refine RET fun h' HL => ?_
  try dsimp only [oneA]
  exact ⟨rfl, HL.le⟩

theorem exponents_ac (p : PlanM) (b : Nat) (vs vo : AV) (h : AH) (hp : PlP h b p vs vo) (hn0 : 1 ≤ p.n) (hn1 : p.n ≤ 6) (hl : p.steps.length ≤ 40) (hf : formedS p.n 0 p.steps = true) :
    AC Try.prog 62 [.p b 0] h (fun r h' => ∃ M, (∃ us, us.length = (expsE p).length ∧ lenA r = some us.length ∧ r.sc = true ∧ M = ssI r us (expsE p)) ∧ Loq h h' M) := by
  have c0 := hp.c0
  have c1 := hp.c1
  have hs := hp.steps
  refine e62 _ fun wf => ?_
  unfold c62
  refine LI_start wf ?_
  refine W ?_
  refine LS_lt ([] : List AV) rfl rfl (by decide) rfl rfl rfl rfl enV1 rfl rfl fun lit0 hlit0 slit0 => ?_
  try (dsimp only [st, setL, AV.cells, List.set_cons_zero, List.set_cons_succ, List.drop_zero, List.drop_succ_cons, List.take_zero, List.take_succ_cons, Nat.zero_add, Nat.add_zero, Nat.reduceAdd, List.cons_append, List.nil_append, List.eraseIdx_cons_zero, List.eraseIdx_cons_succ])
  refine W ?_
  refine LIL_ind (fun n a L => ∃ (out : AV) (i : Int) (us : List AV), (∃ r : Nat → AV, a = [.p b 0, r 1, r 2, out, r 4, r 5, r 6, r 7, r 8, r 9, r 10, r 11, r 12, r 13, r 14, .i .i64 p.n, .i .i64 i, r 17, r 18, r 19, r 20, r 21, r 22, r 23, r 24, r 25, r 26, r 27, r 28, r 29, r 30, r 31, r 32, r 33, r 34, r 35, r 36, r 37, r 38, r 39, r 40, r 41, r 42, r 43, r 44, r 45, r 46, r 47, r 48, r 49, r 50, r 51, r 52, r 53, r 54, r 55, r 56, r 57, r 58, r 59, r 60, r 61, r 62, r 63, r 64, r 65, r 66, r 67, r 68, r 69, r 70, r 71, r 72, r 73]) ∧ L = .sl out 1 (us.flatMap enV) :: (rowsI us ((unitsE p.n.toNat).take i.toNat) ++ []) ∧ us.length = i.toNat ∧ 0 ≤ i ∧ i + n = p.n)
    p.n.toNat ⟨lit0, 0, [], exJ rfl, rfl, rfl, by omega, by omega⟩ ?_
  rintro n a L ⟨out, i, us, ⟨r, rfl⟩, rfl, hus, h0, hn⟩ IH
  have hul : us.length = ((unitsE p.n.toNat).take i.toNat).length := by rw [hus]; simp [unitsE]; omega
  refine W ?_
  (first | refine LS_gt rfl ?_ ?_ | refine LS_gf rfl ?_ ?_ | refine LI_cond rfl ?_ ?_) <;> intro hc <;> have hc' := hc <;> try simp only [decide_eq_true_eq, decide_eq_false_iff_not, Bool.not_eq_true', Bool.not_eq_false', Bool.not_eq_true, Bool.not_eq_false, beq_iff_eq, bne_iff_ne, beq_eq_false_iff_ne, bne_eq_false_iff_eq, Int.not_lt, Int.not_le, ge_iff_le, gt_iff_lt, not_and, ne_eq, Decidable.not_not] at hc'
  all_goals (try (dsimp only [st, setL, AV.cells, List.set_cons_zero, List.set_cons_succ, List.drop_zero, List.drop_succ_cons, List.take_zero, List.take_succ_cons, Nat.zero_add, Nat.add_zero, Nat.reduceAdd, List.cons_append, List.nil_append, List.eraseIdx_cons_zero, List.eraseIdx_cons_succ]))
  all_goals (refine W ?_)
  · refine LS_mk 0 rfl rfl rfl rfl rfl (by omega) (by omega) (by omega) enI1 rfl fun b2 => ?_
    try (dsimp only [st, setL, AV.cells, List.set_cons_zero, List.set_cons_succ, List.drop_zero, List.drop_succ_cons, List.take_zero, List.take_succ_cons, Nat.zero_add, Nat.add_zero, Nat.reduceAdd, List.cons_append, List.nil_append, List.eraseIdx_cons_zero, List.eraseIdx_cons_succ])
    refine W ?_
    refine LS_is h0 (by omega) rfl rfl ?_
    try (dsimp only [st, setL, AV.cells, List.set_cons_zero, List.set_cons_succ, List.drop_zero, List.drop_succ_cons, List.take_zero, List.take_succ_cons, Nat.zero_add, Nat.add_zero, Nat.reduceAdd, List.cons_append, List.nil_append, List.eraseIdx_cons_zero, List.eraseIdx_cons_succ])
    refine W ?_
    refine LS_ss 1 0 i.toNat rfl (by simp; omega) (by omega) rfl enI1 (by decide) rfl rfl rfl ?_
    try (dsimp only [st, setL, AV.cells, List.set_cons_zero, List.set_cons_succ, List.drop_zero, List.drop_succ_cons, List.take_zero, List.take_succ_cons, Nat.zero_add, Nat.add_zero, Nat.reduceAdd, List.cons_append, List.nil_append, List.eraseIdx_cons_zero, List.eraseIdx_cons_succ])
    refine W ?_
    rw [set_unit]
    refine LS_ltV rfl rfl rfl rfl fun lit hlit slit => ?_
    try (dsimp only [st, setL, AV.cells, List.set_cons_zero, List.set_cons_succ, List.drop_zero, List.drop_succ_cons, List.take_zero, List.take_succ_cons, Nat.zero_add, Nat.add_zero, Nat.reduceAdd, List.cons_append, List.nil_append, List.eraseIdx_cons_zero, List.eraseIdx_cons_succ])
    refine W ?_
    refine LS_ap 2 rfl (fun h' HL => HL.rdI 0 rfl enV1 (by decide)) enV1 (by decide) (by simp) (by simp; omega) (by simp; omega) rfl rfl rfl fun w hw sw => ?_
    try (dsimp only [st, setL, AV.cells, List.set_cons_zero, List.set_cons_succ, List.drop_zero, List.drop_succ_cons, List.take_zero, List.take_succ_cons, Nat.zero_add, Nat.add_zero, Nat.reduceAdd, List.cons_append, List.nil_append, List.eraseIdx_cons_zero, List.eraseIdx_cons_succ])
    refine W ?_
    refine LIL_drop 1 (LIL_push [_] hul ?_)
    refine IH (n - 1) _ _ (by omega) ⟨w, i + 1, us ++ [AV.sl b2 0 p.n.toNat true], exJ rfl, by rw [toNat_succ h0, unit_next (by omega)]; rfl, by rw [toNat_succ h0]; simp [hus], by omega, by omega⟩
  · have hi : i.toNat = p.n.toNat := by omega
    have e0 : (unitsE p.n.toNat).take i.toNat = expsT p 0 := by rw [hi, List.take_of_length_le (by simp [unitsE])]; rfl
    rw [e0]
    clear IH
    rw [e0] at hul
    refine LIL_ind (fun n a L => ∃ (out : AV) (i : Int) (us : List AV), (∃ r : Nat → AV, a = [r 0, r 1, r 2, out, r 4, r 5, r 6, r 7, r 8, r 9, r 10, r 11, r 12, r 13, r 14, r 15, r 16, r 17, r 18, r 19, r 20, r 21, r 22, r 23, r 24, r 25, r 26, r 27, r 28, r 29, r 30, r 31, r 32, r 33, r 34, vs, .i .i64 p.steps.length, .i .i64 i, r 38, r 39, r 40, r 41, r 42, r 43, r 44, r 45, r 46, r 47, r 48, r 49, r 50, r 51, r 52, r 53, r 54, r 55, r 56, r 57, r 58, r 59, r 60, r 61, r 62, r 63, r 64, r 65, r 66, r 67, r 68, r 69, r 70, r 71, r 72, r 73]) ∧ L = .sl out 1 (us.flatMap enV) :: (rowsI us (expsT p i.toNat) ++ []) ∧ us.length = (expsT p i.toNat).length ∧ 0 ≤ i ∧ i + n = p.steps.length)
      p.steps.length ⟨out, 0, us, exJ rfl, rfl, hul, by omega, by omega⟩ ?_
    rintro n a L ⟨out, i, us, ⟨r, rfl⟩, rfl, hul, h0, hn⟩ IH
    obtain ⟨hel, hro⟩ := expsT_ok hf hn0 i.toNat (by omega)
    refine W ?_
    (first | refine LS_gt rfl ?_ ?_ | refine LS_gf rfl ?_ ?_ | refine LI_cond rfl ?_ ?_) <;> intro hc <;> have hc' := hc <;> try simp only [decide_eq_true_eq, decide_eq_false_iff_not, Bool.not_eq_true', Bool.not_eq_false', Bool.not_eq_true, Bool.not_eq_false, beq_iff_eq, bne_iff_ne, beq_eq_false_iff_ne, bne_eq_false_iff_eq, Int.not_lt, Int.not_le, ge_iff_le, gt_iff_lt, not_and, ne_eq, Decidable.not_not] at hc'
    all_goals (try (dsimp only [st, setL, AV.cells, List.set_cons_zero, List.set_cons_succ, List.drop_zero, List.drop_succ_cons, List.take_zero, List.take_succ_cons, Nat.zero_add, Nat.add_zero, Nat.reduceAdd, List.cons_append, List.nil_append, List.eraseIdx_cons_zero, List.eraseIdx_cons_succ]))
    all_goals (refine W ?_)
    · obtain ⟨s, hs', _, _⟩ := drop_at h0 hc'
      have hb := formedS_get hf hs'
      obtain ⟨u, hu⟩ := at_ (l := us) (i := s.1.toNat) (by omega)
      obtain ⟨u', hu'⟩ := at_ (l := us) (i := s.2.toNat) (by omega)
      have hx := getD_get (ll := expsT p i.toNat) (i := s.1.toNat) (by omega)
      have hy := getD_get (ll := expsT p i.toNat) (i := s.2.toNat) (by omega)
      have rx := hro _ (List.mem_of_getElem? hx)
      have ry := hro _ (List.mem_of_getElem? hy)
      have hst := expsT_succ hs'
      generalize hX : (expsT p i.toNat).getD s.1.toNat [] = X at hx rx
      generalize hY : (expsT p i.toNat).getD s.2.toNat [] = Y at hy ry
      refine LS_ix (fun h' HL => hs.le HL.le) enStep2 hs' h0 rfl rfl fun q o hrow => ?_
      try (dsimp only [st, setL, AV.cells, List.set_cons_zero, List.set_cons_succ, List.drop_zero, List.drop_succ_cons, List.take_zero, List.take_succ_cons, Nat.zero_add, Nat.add_zero, Nat.reduceAdd, List.cons_append, List.nil_append, List.eraseIdx_cons_zero, List.eraseIdx_cons_succ])
      refine W ?_
      refine LS_al rfl fun b5 => ?_
      try (dsimp only [st, setL, AV.cells, List.set_cons_zero, List.set_cons_succ, List.drop_zero, List.drop_succ_cons, List.take_zero, List.take_succ_cons, Nat.zero_add, Nat.add_zero, Nat.reduceAdd, List.cons_append, List.nil_append, List.eraseIdx_cons_zero, List.eraseIdx_cons_succ])
      refine W ?_
      refine LS_lt ([] : List Int) rfl rfl (by decide) rfl rfl rfl rfl enI1 rfl rfl fun lit1 hlit1 slit1 => ?_
      try (dsimp only [st, setL, AV.cells, List.set_cons_zero, List.set_cons_succ, List.drop_zero, List.drop_succ_cons, List.take_zero, List.take_succ_cons, Nat.zero_add, Nat.add_zero, Nat.reduceAdd, List.cons_append, List.nil_append, List.eraseIdx_cons_zero, List.eraseIdx_cons_succ])
      refine W ?_
      refine LS_ix (fun h' HL => HL.rdI 2 rfl enV1 (by decide)) enV1 hu (by omega) rfl rfl fun q1 o1 hrow1 => ?_
      try (dsimp only [st, setL, AV.cells, List.set_cons_zero, List.set_cons_succ, List.drop_zero, List.drop_succ_cons, List.take_zero, List.take_succ_cons, Nat.zero_add, Nat.add_zero, Nat.reduceAdd, List.cons_append, List.nil_append, List.eraseIdx_cons_zero, List.eraseIdx_cons_succ])
      refine W ?_
      refine LS_have (fun h' HL => ((HL.rdM (List.mem_cons_of_mem _ (List.mem_cons_of_mem _ (List.mem_cons_of_mem _ (rowsI_in hu hx)))) enI1 (by decide)).len)) fun hlu => ?_
      refine W ?_
      refine LIL_ind (fun n a L => ∃ (row : AV) (k : Int), (∃ r : Nat → AV, a = [r 0, r 1, r 2, out, r 4, r 5, r 6, .p b5 0, row, r 9, r 10, r 11, r 12, r 13, r 14, r 15, r 16, r 17, r 18, r 19, r 20, r 21, r 22, r 23, r 24, r 25, r 26, r 27, r 28, r 29, r 30, r 31, r 32, r 33, r 34, vs, .i .i64 p.steps.length, .i .i64 i, r 38, r 39, r 40, r 41, r 42, r 43, r 44, r 45, u, .i .i64 X.length, .i .i64 k, r 49, r 50, r 51, r 52, r 53, r 54, r 55, r 56, r 57, r 58, r 59, r 60, r 61, r 62, r 63, r 64, r 65, r 66, r 67, r 68, r 69, r 70, r 71, r 72, r 73]) ∧ L = .sl row 1 ((sumR (X.take k.toNat) (Y.take k.toNat)).flatMap enI) :: .pt b5 (enStep s) :: .sl out 1 (us.flatMap enV) :: (rowsI us (expsT p i.toNat) ++ []) ∧ 0 ≤ k ∧ k + n = X.length)
        X.length ⟨lit1, 0, exJ rfl, rfl, by omega, by omega⟩ ?_
      rintro m a L ⟨row, k, ⟨r, rfl⟩, rfl, hk0, hkm⟩ IH2
      refine W ?_
      (first | refine LS_gt rfl ?_ ?_ | refine LS_gf rfl ?_ ?_ | refine LI_cond rfl ?_ ?_) <;> intro hc <;> have hc' := hc <;> try simp only [decide_eq_true_eq, decide_eq_false_iff_not, Bool.not_eq_true', Bool.not_eq_false', Bool.not_eq_true, Bool.not_eq_false, beq_iff_eq, bne_iff_ne, beq_eq_false_iff_ne, bne_eq_false_iff_eq, Int.not_lt, Int.not_le, ge_iff_le, gt_iff_lt, not_and, ne_eq, Decidable.not_not] at hc'
      all_goals (try (dsimp only [st, setL, AV.cells, List.set_cons_zero, List.set_cons_succ, List.drop_zero, List.drop_succ_cons, List.take_zero, List.take_succ_cons, Nat.zero_add, Nat.add_zero, Nat.reduceAdd, List.cons_append, List.nil_append, List.eraseIdx_cons_zero, List.eraseIdx_cons_succ]))
      all_goals (refine W ?_)
      · obtain ⟨xa, hxa, hxm, _⟩ := drop_at (l := X) hk0 hc'
        obtain ⟨ya, hya, hym, _⟩ := drop_at (l := Y) hk0 (by omega)
        have b1 := rx.2 xa hxm
        have b2 := ry.2 ya hym
        have hlen : (sumR (X.take k.toNat) (Y.take k.toNat)).length = k.toNat := by rw [sumR_len (by simp; omega)]; simp; omega
        refine LS_ix (fun h' HL => HL.rdM (List.mem_cons_of_mem _ (List.mem_cons_of_mem _ (List.mem_cons_of_mem _ (rowsI_in hu hx)))) enI1 (by decide)) enI1 hxa hk0 rfl rfl fun q2 o2 hrow2 => ?_
        try (dsimp only [st, setL, AV.cells, List.set_cons_zero, List.set_cons_succ, List.drop_zero, List.drop_succ_cons, List.take_zero, List.take_succ_cons, Nat.zero_add, Nat.add_zero, Nat.reduceAdd, List.cons_append, List.nil_append, List.eraseIdx_cons_zero, List.eraseIdx_cons_succ])
        refine W ?_
        refine LS_ix (fun h' HL => HL.rdI 2 rfl enV1 (by decide)) enV1 hu' (by omega) rfl rfl fun q3 o3 hrow3 => ?_
        try (dsimp only [st, setL, AV.cells, List.set_cons_zero, List.set_cons_succ, List.drop_zero, List.drop_succ_cons, List.take_zero, List.take_succ_cons, Nat.zero_add, Nat.add_zero, Nat.reduceAdd, List.cons_append, List.nil_append, List.eraseIdx_cons_zero, List.eraseIdx_cons_succ])
        refine W ?_
        refine LS_ix (fun h' HL => HL.rdM (List.mem_cons_of_mem _ (List.mem_cons_of_mem _ (List.mem_cons_of_mem _ (rowsI_in hu' hy)))) enI1 (by decide)) enI1 hya hk0 rfl rfl fun q4 o4 hrow4 => ?_
        try (dsimp only [st, setL, AV.cells, List.set_cons_zero, List.set_cons_succ, List.drop_zero, List.drop_succ_cons, List.take_zero, List.take_succ_cons, Nat.zero_add, Nat.add_zero, Nat.reduceAdd, List.cons_append, List.nil_append, List.eraseIdx_cons_zero, List.eraseIdx_cons_succ])
        refine W ?_
        refine LS_lt [if (1000001 : Int) < xa + ya then 1000001 else xa + ya] rfl rfl (by decide) rfl rfl rfl rfl enI1 rfl rfl fun lit2 hlit2 slit2 => ?_
        try (dsimp only [st, setL, AV.cells, List.set_cons_zero, List.set_cons_succ, List.drop_zero, List.drop_succ_cons, List.take_zero, List.take_succ_cons, Nat.zero_add, Nat.add_zero, Nat.reduceAdd, List.cons_append, List.nil_append, List.eraseIdx_cons_zero, List.eraseIdx_cons_succ])
        refine W ?_
        refine LS_ap 1 rfl (fun h' HL => HL.rdI 0 rfl enI1 (by decide)) enI1 (by decide) (by simp) (by simp; omega) (by simp; omega) rfl rfl rfl fun w hw sw => ?_
        try (dsimp only [st, setL, AV.cells, List.set_cons_zero, List.set_cons_succ, List.drop_zero, List.drop_succ_cons, List.take_zero, List.take_succ_cons, Nat.zero_add, Nat.add_zero, Nat.reduceAdd, List.cons_append, List.nil_append, List.eraseIdx_cons_zero, List.eraseIdx_cons_succ])
        refine W ?_
        refine LIL_drop 1 ?_
        refine IH2 (m - 1) _ _ (by omega) ⟨w, k + 1, exJ rfl, ?_, by omega, by omega⟩
        rw [toNat_succ hk0, sumR_take hxa hya, show (if xa + ya < 1000001 then xa + ya else 1000001) = if (1000001 : Int) < xa + ya then 1000001 else xa + ya by split <;> split <;> omega]
        rfl
      · have e : k.toNat = X.length := by omega
        have ey : (Y.take X.length) = Y := List.take_of_length_le (by omega)
        rw [e, List.take_length, ey]
        refine LS_have (fun h' HL => rd_sc (HL.rdI 0 rfl enI1 (by decide))) fun srow => ?_
        refine LS_ltV rfl rfl srow rfl fun lit3 hlit3 slit3 => ?_
        try (dsimp only [st, setL, AV.cells, List.set_cons_zero, List.set_cons_succ, List.drop_zero, List.drop_succ_cons, List.take_zero, List.take_succ_cons, Nat.zero_add, Nat.add_zero, Nat.reduceAdd, List.cons_append, List.nil_append, List.eraseIdx_cons_zero, List.eraseIdx_cons_succ])
        refine W ?_
        refine LS_ap 3 rfl (fun h' HL => HL.rdI 0 rfl enV1 (by decide)) enV1 (by decide) (by simp) (by simp; omega) (by simp; omega) rfl rfl rfl fun w hw sw => ?_
        try (dsimp only [st, setL, AV.cells, List.set_cons_zero, List.set_cons_succ, List.drop_zero, List.drop_succ_cons, List.take_zero, List.take_succ_cons, Nat.zero_add, Nat.add_zero, Nat.reduceAdd, List.cons_append, List.nil_append, List.eraseIdx_cons_zero, List.eraseIdx_cons_succ])
        refine W ?_
        refine LIL_drop 1 (LIL_rot 1 rfl (LIL_drop 1 (LIL_push [_] hul ?_)))
        refine IH (n - 1) _ _ (by omega) ⟨w, i + 1, us ++ [row], exJ rfl, by rw [toNat_succ h0, hst, stepE, hX, hY]; rfl, by rw [toNat_succ h0, hst]; simp [stepE, hul], by omega, by omega⟩
    · have e : i.toNat = p.steps.length := by omega
      rw [e, expsT_end] at hul
      rw [e, expsT_end]
      refine RET fun h' HL => ?_
      try dsimp only [oneA]
      have hO := HL.rdI 0 rfl enV1 (by decide)
      exact ⟨_, ⟨us, hul, hO.len, rd_sc hO, rfl⟩, HL⟩

theorem formed_1_ac (x : Int) (p : PlanM) (b q : Nat) (vs vo : AV) (h : AH) (hq : h.cell q 0 = some (.p b 0)) (hp : PlP h b p vs vo) (hb0 : -10 ≤ p.n) (hb1 : p.n ≤ 1048576) (hl : p.steps.length ≤ 1048576) :
    AC Try.prog 135 [.i .i64 x, .p q 0] h (fun r h' => r = .b (!decide (0 ≤ x ∧ x ≤ p.n + p.steps.length - 1)) ∧ h.le h') := by
  refine e135 _ _ fun wf => ?_
  unfold c135
  refine LI_start wf ?_
  refine W ?_
  refine LS_c0 (fun h' HL wf => many_ac p b vs vo h' (hp.le HL.le) hb0 hb1 hl) rfl rfl ?_
  try (dsimp only [st, setL, AV.cells, List.set_cons_zero, List.set_cons_succ, List.drop_zero, List.drop_succ_cons, List.take_zero, List.take_succ_cons, Nat.zero_add, Nat.add_zero, Nat.reduceAdd, List.cons_append, List.nil_append, List.eraseIdx_cons_zero, List.eraseIdx_cons_succ])
  refine W ?_
  refine LS_c0' (fun h' HL wf => in_ac x 0 _ h') rfl rfl ?_
  try (dsimp only [st, setL, AV.cells, List.set_cons_zero, List.set_cons_succ, List.drop_zero, List.drop_succ_cons, List.take_zero, List.take_succ_cons, Nat.zero_add, Nat.add_zero, Nat.reduceAdd, List.cons_append, List.nil_append, List.eraseIdx_cons_zero, List.eraseIdx_cons_succ])
  refine W ?_
  refine RET fun h' HL => ?_
  try dsimp only [oneA]
  exact ⟨rfl, HL.le⟩

theorem formed_ac (p : PlanM) (b : Nat) (vs vo : AV) (h : AH) (hp : PlP h b p vs vo) (hw : inI p.n) (hl : p.steps.length ≤ 1048576) (hl2 : p.outs.length ≤ 1048576) (hw2 : ∀ s ∈ p.steps, inI s.1 ∧ inI s.2) :
    AC Try.prog 110 [.p b 0] h (fun r h' => r = .b (planForm p && outsOk p) ∧ h.le h') := by
  have c0 := hp.c0
  have c1 := hp.c1
  have c2 := hp.c2
  have hs := hp.steps
  have ho := hp.outs
  refine e110 _ fun wf => ?_
  unfold c110
  refine LI_start wf ?_
  refine W ?_
  refine LS_bx1 rfl rfl fun b1 => ?_
  try (dsimp only [st, setL, AV.cells, List.set_cons_zero, List.set_cons_succ, List.drop_zero, List.drop_succ_cons, List.take_zero, List.take_succ_cons, Nat.zero_add, Nat.add_zero, Nat.reduceAdd, List.cons_append, List.nil_append, List.eraseIdx_cons_zero, List.eraseIdx_cons_succ])
  refine W ?_
  refine LS_c0' (fun h' HL wf => in_ac p.n 1 6 h') rfl rfl ?_
  try (dsimp only [st, setL, AV.cells, List.set_cons_zero, List.set_cons_succ, List.drop_zero, List.drop_succ_cons, List.take_zero, List.take_succ_cons, Nat.zero_add, Nat.add_zero, Nat.reduceAdd, List.cons_append, List.nil_append, List.eraseIdx_cons_zero, List.eraseIdx_cons_succ])
  refine W ?_
  (first | refine LS_gt rfl ?_ ?_ | refine LS_gf rfl ?_ ?_ | refine LI_cond rfl ?_ ?_) <;> intro hc <;> have hc' := hc <;> try simp only [decide_eq_true_eq, decide_eq_false_iff_not, Bool.not_eq_true', Bool.not_eq_false', Bool.not_eq_true, Bool.not_eq_false, beq_iff_eq, bne_iff_ne, beq_eq_false_iff_ne, bne_eq_false_iff_eq, Int.not_lt, Int.not_le, ge_iff_le, gt_iff_lt, not_and, ne_eq, Decidable.not_not] at hc'
  all_goals (try (dsimp only [st, setL, AV.cells, List.set_cons_zero, List.set_cons_succ, List.drop_zero, List.drop_succ_cons, List.take_zero, List.take_succ_cons, Nat.zero_add, Nat.add_zero, Nat.reduceAdd, List.cons_append, List.nil_append, List.eraseIdx_cons_zero, List.eraseIdx_cons_succ]))
  all_goals (refine W ?_)
  · have hn := of_decide_eq_true (nf hc)
    (first | refine LS_gt rfl ?_ ?_ | refine LS_gf rfl ?_ ?_ | refine LI_cond rfl ?_ ?_) <;> intro hc <;> have hc' := hc <;> try simp only [decide_eq_true_eq, decide_eq_false_iff_not, Bool.not_eq_true', Bool.not_eq_false', Bool.not_eq_true, Bool.not_eq_false, beq_iff_eq, bne_iff_ne, beq_eq_false_iff_ne, bne_eq_false_iff_eq, Int.not_lt, Int.not_le, ge_iff_le, gt_iff_lt, not_and, ne_eq, Decidable.not_not] at hc'
    all_goals (try (dsimp only [st, setL, AV.cells, List.set_cons_zero, List.set_cons_succ, List.drop_zero, List.drop_succ_cons, List.take_zero, List.take_succ_cons, Nat.zero_add, Nat.add_zero, Nat.reduceAdd, List.cons_append, List.nil_append, List.eraseIdx_cons_zero, List.eraseIdx_cons_succ]))
    all_goals (refine W ?_)
    · have hl40 := hc'
      (first | refine LS_gt rfl ?_ ?_ | refine LS_gf rfl ?_ ?_ | refine LI_cond rfl ?_ ?_) <;> intro hc <;> have hc' := hc <;> try simp only [decide_eq_true_eq, decide_eq_false_iff_not, Bool.not_eq_true', Bool.not_eq_false', Bool.not_eq_true, Bool.not_eq_false, beq_iff_eq, bne_iff_ne, beq_eq_false_iff_ne, bne_eq_false_iff_eq, Int.not_lt, Int.not_le, ge_iff_le, gt_iff_lt, not_and, ne_eq, Decidable.not_not] at hc'
      all_goals (try (dsimp only [st, setL, AV.cells, List.set_cons_zero, List.set_cons_succ, List.drop_zero, List.drop_succ_cons, List.take_zero, List.take_succ_cons, Nat.zero_add, Nat.add_zero, Nat.reduceAdd, List.cons_append, List.nil_append, List.eraseIdx_cons_zero, List.eraseIdx_cons_succ]))
      all_goals (refine W ?_)
      · rw [show planForm p = false by simp only [planForm]; simp; omega, Bool.false_and]
        refine RET fun h' HL => ?_
        try dsimp only [oneA]
        exact ⟨rfl, HL.le⟩
      · have ho6 := hc'
        have hpf : planForm p = formedS p.n 0 p.steps := by
          simp only [planForm, hn, and_self, decide_true, Bool.true_and]
          rw [decide_eq_true (by omega), decide_eq_true (by omega)]
          simp
        refine LIL_ind (fun n a L => ∃ (i : Int), (∃ r : Nat → AV, a = [r 0, .p b1 0, r 2, r 3, r 4, r 5, r 6, r 7, r 8, r 9, r 10, r 11, r 12, r 13, r 14, r 15, r 16, r 17, r 18, r 19, r 20, r 21, r 22, r 23, r 24, r 25, r 26, r 27, r 28, r 29, vs, .i .i64 p.steps.length, .i .i64 i, r 33, r 34, r 35, r 36, r 37, r 38, r 39, r 40, r 41, r 42, r 43, r 44, r 45, r 46, r 47, r 48, r 49, r 50, r 51, r 52, r 53, r 54, r 55, r 56, r 57, r 58, r 59, r 60, r 61, r 62, r 63, r 64, r 65]) ∧ L = [.pt b1 [.p b 0]] ∧ 0 ≤ i ∧ i + n = p.steps.length ∧ formedS p.n 0 p.steps = formedS p.n i.toNat (p.steps.drop i.toNat))
          p.steps.length ⟨0, exJ rfl, rfl, by omega, by omega, rfl⟩ ?_
        rintro n a L ⟨i, ⟨r, rfl⟩, rfl, h0, hni, hfs⟩ IH
        refine W ?_
        (first | refine LS_gt rfl ?_ ?_ | refine LS_gf rfl ?_ ?_ | refine LI_cond rfl ?_ ?_) <;> intro hc <;> have hc' := hc <;> try simp only [decide_eq_true_eq, decide_eq_false_iff_not, Bool.not_eq_true', Bool.not_eq_false', Bool.not_eq_true, Bool.not_eq_false, beq_iff_eq, bne_iff_ne, beq_eq_false_iff_ne, bne_eq_false_iff_eq, Int.not_lt, Int.not_le, ge_iff_le, gt_iff_lt, not_and, ne_eq, Decidable.not_not] at hc'
        all_goals (try (dsimp only [st, setL, AV.cells, List.set_cons_zero, List.set_cons_succ, List.drop_zero, List.drop_succ_cons, List.take_zero, List.take_succ_cons, Nat.zero_add, Nat.add_zero, Nat.reduceAdd, List.cons_append, List.nil_append, List.eraseIdx_cons_zero, List.eraseIdx_cons_succ]))
        all_goals (refine W ?_)
        · obtain ⟨s, hs', hsm, hd⟩ := drop_at h0 hc'
          have hws := hw2 s hsm
          rw [formedS_drop hd] at hfs
          refine LS_ix (fun h' HL => hs.le HL.le) enStep2 hs' h0 rfl rfl fun q o hrow => ?_
          try (dsimp only [st, setL, AV.cells, List.set_cons_zero, List.set_cons_succ, List.drop_zero, List.drop_succ_cons, List.take_zero, List.take_succ_cons, Nat.zero_add, Nat.add_zero, Nat.reduceAdd, List.cons_append, List.nil_append, List.eraseIdx_cons_zero, List.eraseIdx_cons_succ])
          refine W ?_
          refine LS_al rfl fun b3 => ?_
          try (dsimp only [st, setL, AV.cells, List.set_cons_zero, List.set_cons_succ, List.drop_zero, List.drop_succ_cons, List.take_zero, List.take_succ_cons, Nat.zero_add, Nat.add_zero, Nat.reduceAdd, List.cons_append, List.nil_append, List.eraseIdx_cons_zero, List.eraseIdx_cons_succ])
          refine W ?_
          cases hA : decide (s.1 < 0) with
          | true =>
            refine dz110_0 ?_
            refine WX ?_
            refine W ?_
            rw [hpf, hfs, decide_eq_false (by have := of_decide_eq_true hA; omega), Bool.false_and, Bool.false_and]
            refine RET fun h' HL => ?_
            try dsimp only [oneA]
            exact ⟨rfl, HL.le⟩
          | false =>
            cases hB : decide (s.1 > s.2) with
            | true =>
              refine dz110_0 ?_
              refine WX ?_
              refine W ?_
              rw [hpf, hfs, decide_eq_false (by have := of_decide_eq_true hB; omega), Bool.false_and, Bool.false_and]
              refine RET fun h' HL => ?_
              try dsimp only [oneA]
              exact ⟨rfl, HL.le⟩
            | false =>
              have hA' := of_decide_eq_false hA
              have hB' := of_decide_eq_false hB
              refine dz110_0 ?_
              refine WX ?_
              refine W ?_
              (first | refine LS_gt rfl ?_ ?_ | refine LS_gf rfl ?_ ?_ | refine LI_cond rfl ?_ ?_) <;> intro hc <;> have hc' := hc <;> try simp only [decide_eq_true_eq, decide_eq_false_iff_not, Bool.not_eq_true', Bool.not_eq_false', Bool.not_eq_true, Bool.not_eq_false, beq_iff_eq, bne_iff_ne, beq_eq_false_iff_ne, bne_eq_false_iff_eq, Int.not_lt, Int.not_le, ge_iff_le, gt_iff_lt, not_and, ne_eq, Decidable.not_not] at hc'
              all_goals (try (dsimp only [st, setL, AV.cells, List.set_cons_zero, List.set_cons_succ, List.drop_zero, List.drop_succ_cons, List.take_zero, List.take_succ_cons, Nat.zero_add, Nat.add_zero, Nat.reduceAdd, List.cons_append, List.nil_append, List.eraseIdx_cons_zero, List.eraseIdx_cons_succ]))
              all_goals (refine W ?_)
              · rw [hpf, hfs, decide_eq_false (by omega), Bool.false_and, Bool.false_and]
                refine RET fun h' HL => ?_
                try dsimp only [oneA]
                exact ⟨rfl, HL.le⟩
              · refine LIL_drop 1 ?_
                refine IH (n - 1) _ _ (by omega) ⟨i + 1, exJ rfl, rfl, by omega, by omega, ?_⟩
                rw [hfs, decide_eq_true (by omega), Bool.true_and, toNat_succ h0]
        · have e : i.toNat = p.steps.length := by omega
          rw [e, List.drop_length] at hfs
          have hfs' : formedS p.n 0 p.steps = true := hfs
          clear IH
          refine LS_c0 (fun h' HL wf => ContainsFunc_int_ac p.outs vo _ _ (fun x => !decide (0 ≤ x ∧ x ≤ p.n + p.steps.length - 1)) h' (ho.le HL.le) (by omega) (fun x _ h2 hle => formed_1_ac x p b b1 vs vo h2 (hle.cell (HL.cellP 0 rfl rfl)) (hp.le (HL.le.trans hle)) (by omega) (by omega) (by omega))) rfl rfl ?_
          try (dsimp only [st, setL, AV.cells, List.set_cons_zero, List.set_cons_succ, List.drop_zero, List.drop_succ_cons, List.take_zero, List.take_succ_cons, Nat.zero_add, Nat.add_zero, Nat.reduceAdd, List.cons_append, List.nil_append, List.eraseIdx_cons_zero, List.eraseIdx_cons_succ])
          refine W ?_
          refine RET fun h' HL => ?_
          try dsimp only [oneA]
          refine ⟨?_, HL.le⟩
          rw [hpf, hfs', Bool.true_and, outsOk, any_not, Bool.not_not]
    · rw [show planForm p = false by simp only [planForm]; simp; omega, Bool.false_and]
      refine RET fun h' HL => ?_
      try dsimp only [oneA]
      exact ⟨rfl, HL.le⟩
  · have hn := of_decide_eq_false (nt hc)
    rw [show planForm p = false by simp only [planForm, decide_eq_false hn, Bool.false_and], Bool.false_and]
    refine RET fun h' HL => ?_
    try dsimp only [oneA]
    exact ⟨rfl, HL.le⟩

def maxL (m : Int) : List Int → Int
  | [] => m
  | x :: l => maxL (if x > m then x else m) l

theorem maxL_gt {b : Int} : ∀ (l : List Int) (m : Int), decide (maxL m l > b) = (decide (m > b) || l.any fun x => decide (x > b))
  | [], m => by simp [maxL]
  | x :: l, m => by
    rw [maxL, maxL_gt l]
    rw [List.any_cons, ← Bool.or_assoc]
    congr 1
    split <;> by_cases h1 : m > b <;> by_cases h2 : x > b <;> simp [h1, h2] <;> omega

theorem Max_ac (y : Int) (l : List Int) (v : AV) (h : AH) (hR : Rd h v (y :: l)) (hl : l.length ≤ 4611686018427387904) :
    AC Try.prog 113 [v] h (fun r h' => r = .i .i64 (maxL y l) ∧ h.le h') := by
  refine e113 _ fun wf => ?_
  unfold c113
  refine LI_start wf ?_
  refine W ?_
  first | (refine LS_gtnH rfl (decide_eq_false (by simp; omega)) ?_; intro hg; try (dsimp only [st, setL, AV.cells, List.set_cons_zero, List.set_cons_succ, List.drop_zero, List.drop_succ_cons, List.take_zero, List.take_succ_cons, Nat.zero_add, Nat.add_zero, Nat.reduceAdd, List.cons_append, List.nil_append, List.eraseIdx_cons_zero, List.eraseIdx_cons_succ])) | (refine LS_gfnH rfl (decide_eq_false (by simp; omega)) ?_; intro hg; try (dsimp only [st, setL, AV.cells, List.set_cons_zero, List.set_cons_succ, List.drop_zero, List.drop_succ_cons, List.take_zero, List.take_succ_cons, Nat.zero_add, Nat.add_zero, Nat.reduceAdd, List.cons_append, List.nil_append, List.eraseIdx_cons_zero, List.eraseIdx_cons_succ])) | (refine LI_cond_fH rfl (decide_eq_false (by simp; omega)) ?_; intro hg)
  refine W ?_
  refine LS_ix (n := 0) (y := y) (fun h' HL => hR.le HL.le) enI1 rfl (by decide) rfl rfl fun b o hrow => ?_
  try (dsimp only [st, setL, AV.cells, List.set_cons_zero, List.set_cons_succ, List.drop_zero, List.drop_succ_cons, List.take_zero, List.take_succ_cons, Nat.zero_add, Nat.add_zero, Nat.reduceAdd, List.cons_append, List.nil_append, List.eraseIdx_cons_zero, List.eraseIdx_cons_succ])
  refine W ?_
  refine LIL_ind (fun n a L => ∃ (m i : Int), (∃ r : Nat → AV, a = [v, r 1, r 2, .i .i64 m, .i .i64 i, r 5, r 6, r 7, r 8, r 9, r 10, r 11, r 12, r 13, r 14, r 15, r 16, r 17, r 18, r 19, r 20, r 21, r 22, r 23, r 24]) ∧ L = [] ∧ 1 ≤ i ∧ i + n = l.length + 1 ∧ maxL y l = maxL m (l.drop (i.toNat - 1)))
    l.length ⟨y, 1, exJ rfl, rfl, by omega, by omega, rfl⟩ ?_
  rintro n a L ⟨m, i, ⟨r, rfl⟩, rfl, h0, hn, heq⟩ IH
  refine W ?_
  (first | refine LS_gt rfl ?_ ?_ | refine LS_gf rfl ?_ ?_ | refine LI_cond rfl ?_ ?_) <;> intro hc <;> have hc' := hc <;> try simp only [decide_eq_true_eq, decide_eq_false_iff_not, Bool.not_eq_true', Bool.not_eq_false', Bool.not_eq_true, Bool.not_eq_false, beq_iff_eq, bne_iff_ne, beq_eq_false_iff_ne, bne_eq_false_iff_eq, Int.not_lt, Int.not_le, ge_iff_le, gt_iff_lt, not_and, ne_eq, Decidable.not_not] at hc'
  all_goals (try (dsimp only [st, setL, AV.cells, List.set_cons_zero, List.set_cons_succ, List.drop_zero, List.drop_succ_cons, List.take_zero, List.take_succ_cons, Nat.zero_add, Nat.add_zero, Nat.reduceAdd, List.cons_append, List.nil_append, List.eraseIdx_cons_zero, List.eraseIdx_cons_succ]))
  all_goals (refine W ?_)
  · simp only [List.length_cons] at hc'
    obtain ⟨z, hz, hzm, hd⟩ := drop_at (l := l) (i := i - 1) (by omega) (by omega)
    have e1 : (i - 1).toNat = i.toNat - 1 := by omega
    rw [e1] at hz hd
    rw [hd] at heq
    refine LS_ix (y := z) (fun h' HL => hR.le HL.le) enI1 (by rw [show i.toNat = (i.toNat - 1) + 1 by omega]; exact hz) (by omega) rfl rfl fun b o hrow => ?_
    try (dsimp only [st, setL, AV.cells, List.set_cons_zero, List.set_cons_succ, List.drop_zero, List.drop_succ_cons, List.take_zero, List.take_succ_cons, Nat.zero_add, Nat.add_zero, Nat.reduceAdd, List.cons_append, List.nil_append, List.eraseIdx_cons_zero, List.eraseIdx_cons_succ])
    refine W ?_
    refine IH (n - 1) _ _ (by omega) ⟨_, i + 1, exJ rfl, rfl, by omega, by omega, ?_⟩
    rw [heq, maxL, show (i + 1).toNat - 1 = i.toNat - 1 + 1 by omega]
  · refine RET fun h' HL => ?_
    try dsimp only [oneA]
    refine ⟨?_, HL.le⟩
    simp only [List.length_cons] at hc'
    rw [heq, List.drop_eq_nil_of_le (by omega)]
    rfl

theorem IsPlan_1_ac (x : List Int) (v : AV) (h : AH) (hR : Rd h v x) (h0 : 0 < x.length) (hl : x.length ≤ 4611686018427387904) :
    AC Try.prog 112 [v] h (fun r h' => r = .b (x.any fun y => decide (y > 1000000)) ∧ h.le h') := by
  cases x with
  | nil => simp at h0
  | cons y l =>
    refine e112 _ fun wf => ?_
    unfold c112
    refine LI_start wf ?_
    refine W ?_
    refine LS_c0 (fun h' HL wf => Max_ac y l v h' (hR.le HL.le) (by simp at hl; omega)) rfl rfl ?_
    try (dsimp only [st, setL, AV.cells, List.set_cons_zero, List.set_cons_succ, List.drop_zero, List.drop_succ_cons, List.take_zero, List.take_succ_cons, Nat.zero_add, Nat.add_zero, Nat.reduceAdd, List.cons_append, List.nil_append, List.eraseIdx_cons_zero, List.eraseIdx_cons_succ])
    refine W ?_
    refine RET fun h' HL => ?_
    try dsimp only [oneA]
    exact ⟨by rw [List.any_cons, ← maxL_gt], HL.le⟩

theorem small_any {r : List Int} (hb : row01 r) : (r.all fun x => decide (0 ≤ x ∧ x ≤ 1000000)) = !(r.any fun y => decide (y > 1000000)) := by
  rw [Bool.eq_iff_iff]
  simp only [List.all_eq_true, Bool.not_eq_true', List.any_eq_false, decide_eq_true_eq]
  constructor
  · intro H x hx
    have := H x hx
    omega
  · intro H x hx
    have h1 := H x hx
    have h2 := hb x hx
    omega

theorem all_not {α : Type} : ∀ {l : List α} {f g : α → Bool}, (∀ r ∈ l, f r = !g r) → l.all f = !l.any g
  | [], _, _, _ => rfl
  | x :: l, f, g, h => by
    rw [List.all_cons, List.any_cons, Bool.not_or, h x (by simp), all_not (l := l) (f := f) (g := g) fun r hr => h r (by simp [hr])]

theorem IsPlan_ac (p : PlanM) (v : AV) (h : AH) (hR : PlR h v p) (hw : inI p.n) (hl : p.steps.length ≤ 1048576) (hl2 : p.outs.length ≤ 1048576) (hw2 : ∀ s ∈ p.steps, inI s.1 ∧ inI s.2) :
    AC Try.prog 56 [v] h (fun r h' => r = .b (planOk p) ∧ h.le h') := by
  obtain ⟨vs, vo, rfl, hs, ho⟩ := hR
  refine e56 _ fun wf => ?_
  unfold c56
  refine LI_start wf ?_
  refine W ?_
  refine LS_bxn rfl (sc_cons rfl (sc_cons (rd_sc hs) (sc_cons (rd_sc ho) rfl))) fun b1 => ?_
  try (dsimp only [st, setL, AV.cells, List.set_cons_zero, List.set_cons_succ, List.drop_zero, List.drop_succ_cons, List.take_zero, List.take_succ_cons, Nat.zero_add, Nat.add_zero, Nat.reduceAdd, List.cons_append, List.nil_append, List.eraseIdx_cons_zero, List.eraseIdx_cons_succ])
  refine W ?_
  refine LS_c0 (fun h' HL wf => formed_ac p b1 vs vo h' ⟨HL.rowsP 0 rfl (Nat.le_refl 3) rfl, hs.le HL.le, ho.le HL.le⟩ hw hl hl2 hw2) rfl rfl ?_
  try (dsimp only [st, setL, AV.cells, List.set_cons_zero, List.set_cons_succ, List.drop_zero, List.drop_succ_cons, List.take_zero, List.take_succ_cons, Nat.zero_add, Nat.add_zero, Nat.reduceAdd, List.cons_append, List.nil_append, List.eraseIdx_cons_zero, List.eraseIdx_cons_succ])
  refine W ?_
  (first | refine LS_gt rfl ?_ ?_ | refine LS_gf rfl ?_ ?_ | refine LI_cond rfl ?_ ?_) <;> intro hc <;> have hc' := hc <;> try simp only [decide_eq_true_eq, decide_eq_false_iff_not, Bool.not_eq_true', Bool.not_eq_false', Bool.not_eq_true, Bool.not_eq_false, beq_iff_eq, bne_iff_ne, beq_eq_false_iff_ne, bne_eq_false_iff_eq, Int.not_lt, Int.not_le, ge_iff_le, gt_iff_lt, not_and, ne_eq, Decidable.not_not] at hc'
  all_goals (try (dsimp only [st, setL, AV.cells, List.set_cons_zero, List.set_cons_succ, List.drop_zero, List.drop_succ_cons, List.take_zero, List.take_succ_cons, Nat.zero_add, Nat.add_zero, Nat.reduceAdd, List.cons_append, List.nil_append, List.eraseIdx_cons_zero, List.eraseIdx_cons_succ]))
  all_goals (refine W ?_)
  · simp only [Bool.and_eq_true] at hc
    obtain ⟨hpf, hou⟩ := hc
    obtain ⟨h1, h2, h3, h4, h5⟩ := planForm_out hpf
    obtain ⟨hlen, hel⟩ := expsT_ok h5 h1 p.steps.length (Nat.le_refl _)
    rw [expsT_end] at hlen hel
    refine LS_c1 (fun h' HL wf => exponents_ac p b1 vs vo h' ⟨HL.rowsP 0 rfl (Nat.le_refl 3) rfl, hs.le HL.le, ho.le HL.le⟩ h1 h2 h3 h5) rfl rfl ?_
    try (dsimp only [st, setL, AV.cells, List.set_cons_zero, List.set_cons_succ, List.drop_zero, List.drop_succ_cons, List.take_zero, List.take_succ_cons, Nat.zero_add, Nat.add_zero, Nat.reduceAdd, List.cons_append, List.nil_append, List.eraseIdx_cons_zero, List.eraseIdx_cons_succ])
    refine W ?_
    rintro ex M ⟨us, hus, hrl, hrs, rfl⟩
    try (dsimp only [st, setL, AV.cells, List.set_cons_zero, List.set_cons_succ, List.drop_zero, List.drop_succ_cons, List.take_zero, List.take_succ_cons, Nat.zero_add, Nat.add_zero, Nat.reduceAdd, List.cons_append, List.nil_append, List.eraseIdx_cons_zero, List.eraseIdx_cons_succ])
    unfold ssI
    refine W ?_
    refine LS_c0 (fun h' HL wf => ContainsFuncSS_ac (expsE p) us ex _ _ (fun r => r.any fun y => decide (y > 1000000)) h' (HL.rdI 0 rfl enV1 (by decide)) hus (by omega) (fun i u x hu hx h2 hle => IsPlan_1_ac x u h2 ((HL.rdM (List.mem_cons_of_mem _ (List.mem_append_left _ (rowsI_in hu hx))) enI1 (by decide)).le hle) (by have := (hel x (List.mem_of_getElem? hx)).1; omega) (by have := (hel x (List.mem_of_getElem? hx)).1; omega))) rfl rfl ?_
    try (dsimp only [st, setL, AV.cells, List.set_cons_zero, List.set_cons_succ, List.drop_zero, List.drop_succ_cons, List.take_zero, List.take_succ_cons, Nat.zero_add, Nat.add_zero, Nat.reduceAdd, List.cons_append, List.nil_append, List.eraseIdx_cons_zero, List.eraseIdx_cons_succ])
    refine W ?_
    refine RET fun h' HL => ?_
    try dsimp only [oneA]
    refine ⟨?_, HL.le⟩
    simp only [planOk, hpf, hou, Bool.true_and, Bool.and_true, smallE]
    exact congrArg AV.b (all_not fun r hr => small_any (hel r hr).2).symm
  · refine RET fun h' HL => ?_
    try dsimp only [oneA]
    refine ⟨?_, HL.le⟩
    simp only [planOk]
    cases hpf : planForm p with
    | false => rfl
    | true => rw [hpf, Bool.true_and] at hc; rw [hc]; simp

theorem l1Has_ac (l : List Int) (v : AV) (x : Int) (h : AH) (hR : Rd h v l) (hl : l.length ≤ 4611686018427387904) : AC Try.prog 117 [v, .i .i64 x] h (fun r h' => r = .b (l.any fun y => y == x) ∧ h.le h') := by
  refine e117 _ _ fun wf => ?_
  unfold c117
  refine LI_start wf ?_
  refine W ?_
  refine LIL_ind (fun n a L => ∃ (i : Int), (∃ r : Nat → AV, a = [r 0, .i .i64 x, r 2, r 3, r 4, r 5, r 6, v, .i .i64 l.length, .i .i64 i, r 10, r 11, r 12, r 13, r 14, r 15, r 16]) ∧ L = [] ∧ 0 ≤ i ∧ i + n = l.length ∧ (l.any fun y => y == x) = ((l.drop i.toNat).any fun y => y == x))
    l.length ⟨0, exJ rfl, rfl, by omega, by omega, rfl⟩ ?_
  rintro n a L ⟨i, ⟨r, rfl⟩, rfl, h0, hn, heq⟩ IH
  refine W ?_
  (first | refine LS_gt rfl ?_ ?_ | refine LS_gf rfl ?_ ?_ | refine LI_cond rfl ?_ ?_) <;> intro hc <;> have hc' := hc <;> try simp only [decide_eq_true_eq, decide_eq_false_iff_not, Bool.not_eq_true', Bool.not_eq_false', Bool.not_eq_true, Bool.not_eq_false, beq_iff_eq, bne_iff_ne, beq_eq_false_iff_ne, bne_eq_false_iff_eq, Int.not_lt, Int.not_le, ge_iff_le, gt_iff_lt, not_and, ne_eq, Decidable.not_not] at hc'
  all_goals (try (dsimp only [st, setL, AV.cells, List.set_cons_zero, List.set_cons_succ, List.drop_zero, List.drop_succ_cons, List.take_zero, List.take_succ_cons, Nat.zero_add, Nat.add_zero, Nat.reduceAdd, List.cons_append, List.nil_append, List.eraseIdx_cons_zero, List.eraseIdx_cons_succ]))
  all_goals (refine W ?_)
  · obtain ⟨y, hy, hym, hd⟩ := drop_at h0 hc'
    rw [hd, List.any_cons] at heq
    refine LS_ix (fun h' HL => hR.le HL.le) enI1 hy h0 rfl rfl fun b o hrow => ?_
    try (dsimp only [st, setL, AV.cells, List.set_cons_zero, List.set_cons_succ, List.drop_zero, List.drop_succ_cons, List.take_zero, List.take_succ_cons, Nat.zero_add, Nat.add_zero, Nat.reduceAdd, List.cons_append, List.nil_append, List.eraseIdx_cons_zero, List.eraseIdx_cons_succ])
    refine W ?_
    (first | refine LS_gt rfl ?_ ?_ | refine LS_gf rfl ?_ ?_ | refine LI_cond rfl ?_ ?_) <;> intro hc <;> have hc' := hc <;> try simp only [decide_eq_true_eq, decide_eq_false_iff_not, Bool.not_eq_true', Bool.not_eq_false', Bool.not_eq_true, Bool.not_eq_false, beq_iff_eq, bne_iff_ne, beq_eq_false_iff_ne, bne_eq_false_iff_eq, Int.not_lt, Int.not_le, ge_iff_le, gt_iff_lt, not_and, ne_eq, Decidable.not_not] at hc'
    all_goals (try (dsimp only [st, setL, AV.cells, List.set_cons_zero, List.set_cons_succ, List.drop_zero, List.drop_succ_cons, List.take_zero, List.take_succ_cons, Nat.zero_add, Nat.add_zero, Nat.reduceAdd, List.cons_append, List.nil_append, List.eraseIdx_cons_zero, List.eraseIdx_cons_succ]))
    all_goals (refine W ?_)
    · rw [heq, hc]
      refine RET fun h' HL => ?_
      try dsimp only [oneA]
      exact ⟨rfl, HL.le⟩
    · refine IH (n - 1) _ _ (by omega) ⟨i + 1, exJ rfl, rfl, by omega, by omega, ?_⟩
      rw [heq, hc, Bool.false_or, toNat_succ h0]
  · rw [heq, List.drop_eq_nil_of_le (by omega)]
    refine RET fun h' HL => ?_
    try dsimp only [oneA]
    exact ⟨rfl, HL.le⟩

theorem Index_ac (l : List Int) (v : AV) (x : Int) (h : AH) (hR : Rd h v l) (hl : l.length ≤ 4611686018427387904) : AC Try.prog 138 [v, .i .i64 x] h (fun r h' => r = .i .i64 (idxFrom (fun y => x == y) l 0) ∧ h.le h') := by
  refine e138 _ _ fun wf => ?_
  unfold c138
  refine LI_start wf ?_
  refine W ?_
  refine LIL_ind (fun n a L => ∃ (i : Int), (∃ r : Nat → AV, a = [v, .i .i64 x, r 2, r 3, r 4, r 5, r 6, .i .i64 l.length, .i .i64 i, r 9, r 10, r 11, r 12, r 13, r 14, r 15, r 16, r 17, r 18]) ∧ L = [] ∧ 0 ≤ i ∧ i + n = l.length ∧ idxFrom (fun y => x == y) l 0 = idxFrom (fun y => x == y) (l.drop i.toNat) i)
    l.length ⟨0, exJ rfl, rfl, by omega, by omega, rfl⟩ ?_
  rintro n a L ⟨i, ⟨r, rfl⟩, rfl, h0, hn, heq⟩ IH
  refine W ?_
  (first | refine LS_gt rfl ?_ ?_ | refine LS_gf rfl ?_ ?_ | refine LI_cond rfl ?_ ?_) <;> intro hc <;> have hc' := hc <;> try simp only [decide_eq_true_eq, decide_eq_false_iff_not, Bool.not_eq_true', Bool.not_eq_false', Bool.not_eq_true, Bool.not_eq_false, beq_iff_eq, bne_iff_ne, beq_eq_false_iff_ne, bne_eq_false_iff_eq, Int.not_lt, Int.not_le, ge_iff_le, gt_iff_lt, not_and, ne_eq, Decidable.not_not] at hc'
  all_goals (try (dsimp only [st, setL, AV.cells, List.set_cons_zero, List.set_cons_succ, List.drop_zero, List.drop_succ_cons, List.take_zero, List.take_succ_cons, Nat.zero_add, Nat.add_zero, Nat.reduceAdd, List.cons_append, List.nil_append, List.eraseIdx_cons_zero, List.eraseIdx_cons_succ]))
  all_goals (refine W ?_)
  · obtain ⟨y, hy, hym, hd⟩ := drop_at h0 hc'
    rw [hd, idxFrom] at heq
    refine LS_ix (fun h' HL => hR.le HL.le) enI1 hy h0 rfl rfl fun b o hrow => ?_
    try (dsimp only [st, setL, AV.cells, List.set_cons_zero, List.set_cons_succ, List.drop_zero, List.drop_succ_cons, List.take_zero, List.take_succ_cons, Nat.zero_add, Nat.add_zero, Nat.reduceAdd, List.cons_append, List.nil_append, List.eraseIdx_cons_zero, List.eraseIdx_cons_succ])
    refine W ?_
    (first | refine LS_gt rfl ?_ ?_ | refine LS_gf rfl ?_ ?_ | refine LI_cond rfl ?_ ?_) <;> intro hc <;> have hc' := hc <;> try simp only [decide_eq_true_eq, decide_eq_false_iff_not, Bool.not_eq_true', Bool.not_eq_false', Bool.not_eq_true, Bool.not_eq_false, beq_iff_eq, bne_iff_ne, beq_eq_false_iff_ne, bne_eq_false_iff_eq, Int.not_lt, Int.not_le, ge_iff_le, gt_iff_lt, not_and, ne_eq, Decidable.not_not] at hc'
    all_goals (try (dsimp only [st, setL, AV.cells, List.set_cons_zero, List.set_cons_succ, List.drop_zero, List.drop_succ_cons, List.take_zero, List.take_succ_cons, Nat.zero_add, Nat.add_zero, Nat.reduceAdd, List.cons_append, List.nil_append, List.eraseIdx_cons_zero, List.eraseIdx_cons_succ]))
    all_goals (refine W ?_)
    · rw [heq, if_pos hc]
      refine RET fun h' HL => ?_
      try dsimp only [oneA]
      exact ⟨rfl, HL.le⟩
    · refine IH (n - 1) _ _ (by omega) ⟨i + 1, exJ rfl, rfl, by omega, by omega, ?_⟩
      rw [heq, if_neg (by rw [hc]; simp), toNat_succ h0]
  · rw [heq, List.drop_eq_nil_of_le (by omega)]
    refine RET fun h' HL => ?_
    try dsimp only [oneA]
    exact ⟨rfl, HL.le⟩

theorem Contains_ac (l : List Int) (v : AV) (x : Int) (h : AH) (hR : Rd h v l) (hl : l.length ≤ 4611686018427387904) : AC Try.prog 118 [v, .i .i64 x] h (fun r h' => r = .b (l.any fun y => y == x) ∧ h.le h') := by
  refine e118 _ _ fun wf => ?_
  unfold c118
  refine LI_start wf ?_
  refine W ?_
  refine LS_c0 (fun h' HL wf => Index_ac l v x h' (hR.le HL.le) hl) rfl rfl ?_
  try (dsimp only [st, setL, AV.cells, List.set_cons_zero, List.set_cons_succ, List.drop_zero, List.drop_succ_cons, List.take_zero, List.take_succ_cons, Nat.zero_add, Nat.add_zero, Nat.reduceAdd, List.cons_append, List.nil_append, List.eraseIdx_cons_zero, List.eraseIdx_cons_succ])
  refine W ?_
  refine RET fun h' HL => ?_
  try dsimp only [oneA]
  refine ⟨?_, HL.le⟩
  have e : (fun y => y == x) = fun y => x == y := by funext y; exact Bool.beq_comm
  rw [e, ← idxFrom_any _ l 0 (by omega)]

theorem planOk_out {p : PlanM} (h : planOk p = true) : 1 ≤ p.n ∧ p.n ≤ 6 ∧ p.steps.length ≤ 40 ∧ p.outs.length ≤ 6 ∧ formedS p.n 0 p.steps = true ∧ outsOk p = true := by
  simp only [planOk, Bool.and_eq_true] at h
  obtain ⟨h1, h2, h3, h4, h5⟩ := planForm_out h.1
  exact ⟨h1, h2, h3, h4, h5, h.2.2⟩

/-- Small enough for the laws. -/
structure PSm (p : PlanM) : Prop where
  wf : p.wf
  ls : p.steps.length ≤ 1048576
  lo : p.outs.length ≤ 1048576

theorem good_ac (p : PlanM) (v : AV) (h : AH) (hR : PlR h v p) (hw : PSm p) : AC Try.prog 59 [v] h (fun r h' => r = .b (planOk p) ∧ h.le h') := plGood_ac p v h hR hw.wf.n hw.ls hw.lo hw.wf.steps

theorem isPlan_ac (p : PlanM) (v : AV) (h : AH) (hR : PlR h v p) (hw : PSm p) : AC Try.prog 56 [v] h (fun r h' => r = .b (planOk p) ∧ h.le h') := IsPlan_ac p v h hR hw.wf.n hw.ls hw.lo hw.wf.steps

theorem toPlanX_ac (p : PlanM) (v : AV) (h : AH) (hR : PlR h v p) (hw : PSm p) :
    AC Try.prog 21 [v] h (fun r h' => ∃ M, (∃ vs vo, (r = .agg [.i .i64 p.n, vs, vo] ∧ lenA vs = some p.steps.length ∧ lenA vo = some p.outs.length ∧ vs.sc = true ∧ vo.sc = true) ∧ M = [.sl vs 2 (p.steps.flatMap enStep), .sl vo 1 (p.outs.flatMap enI)]) ∧ Loq h h' M) :=
  (toPlan_ac p v h hR hw.ls hw.lo).mono fun r h' ⟨M, ⟨vs, vo, e1, e2⟩, G⟩ => by
    subst e2
    have g1 := G.rdI 0 rfl enStep2 (by decide)
    have g2 := G.rdI 1 rfl enI1 (by decide)
    exact ⟨_, ⟨vs, vo, ⟨e1, g1.len, g2.len, rd_sc g1, rd_sc g2⟩, rfl⟩, G⟩

theorem plr_of {h0 h : AH} {L : List It} {p : PlanM} {vs vo : AV} (H : Loq h0 h L) (i j : Nat) (h1 : L[i]? = some (.sl vs 2 (p.steps.flatMap enStep))) (h2 : L[j]? = some (.sl vo 1 (p.outs.flatMap enI))) : PlR h (.agg [.i .i64 p.n, vs, vo]) p :=
  ⟨vs, vo, rfl, H.rdI i h1 enStep2 (by decide), H.rdI j h2 enI1 (by decide)⟩

theorem psm_of {p : PlanM} (hw : p.wf) {z : Int} (hz : 0 ≤ z → (p.steps.length + p.outs.length : Int) ≤ 1048576) (h : 0 ≤ z) : PSm p := ⟨hw, by have := hz h; omega, by have := hz h; omega⟩

/-! ### Values that are used later -/
def putL : List Int → Int → List Int
  | [], n => [n]
  | x :: l, n => if x < n then x :: putL l n else if x = n then x :: l else n :: x :: l

theorem putL_mem : ∀ (l : List Int) (n x : Int), x ∈ putL l n ↔ x = n ∨ x ∈ l
  | [], n, x => by simp [putL]
  | y :: l, n, x => by
    have ih := putL_mem l n x
    unfold putL
    split
    · simp only [List.mem_cons, ih]
      constructor
      · rintro (h | h | h) <;> simp [h]
      · rintro (h | h | h) <;> simp [h]
    · split
      · rename_i e
        simp only [List.mem_cons]
        constructor
        · rintro (h | h)
          · exact .inr (.inl h)
          · exact .inr (.inr h)
        · rintro (h | h | h)
          · exact .inl (by omega)
          · exact .inl h
          · exact .inr h
      · simp only [List.mem_cons]

theorem putL_si : ∀ {l : List Int} {n : Int}, l.Pairwise (· < ·) → (putL l n).Pairwise (· < ·)
  | [], n, _ => by simp [putL]
  | y :: l, n, h => by
    have h' := List.pairwise_cons.1 h
    have ih := putL_si (n := n) h'.2
    unfold putL
    split
    · rename_i e
      refine List.pairwise_cons.2 ⟨fun z hz => ?_, ih⟩
      rcases (putL_mem l n z).1 hz with h1 | h1
      · omega
      · exact h'.1 z h1
    · split
      · exact h
      · refine List.pairwise_cons.2 ⟨fun z hz => ?_, h⟩
        rcases List.mem_cons.1 hz with h1 | h1
        · omega
        · have := h'.1 z h1; omega

theorem si_ext : ∀ {l m : List Int}, l.Pairwise (· < ·) → m.Pairwise (· < ·) → (∀ x, x ∈ l ↔ x ∈ m) → l = m
  | [], [], _, _, _ => rfl
  | [], y :: m, _, _, h => by have := (h y).2 (by simp); simp at this
  | x :: l, [], _, _, h => by have := (h x).1 (by simp); simp at this
  | x :: l, y :: m, h1, h2, h => by
    have a1 := List.pairwise_cons.1 h1
    have a2 := List.pairwise_cons.1 h2
    have e : x = y := by
      have b1 := (h x).1 (by simp)
      have b2 := (h y).2 (by simp)
      rcases List.mem_cons.1 b1 with c1 | c1
      · exact c1
      · rcases List.mem_cons.1 b2 with c2 | c2
        · exact c2.symm
        · have d1 := a2.1 x c1
          have d2 := a1.1 y c2
          omega
    subst e
    congr 1
    refine si_ext a1.2 a2.2 fun z => ?_
    constructor
    · intro hz
      have hlt := a1.1 z hz
      rcases List.mem_cons.1 ((h z).1 (by simp [hz])) with c | c
      · omega
      · exact c
    · intro hz
      have hlt := a2.1 z hz
      rcases List.mem_cons.1 ((h z).2 (by simp [hz])) with c | c
      · omega
      · exact c

def iotaI (n : Nat) : List Int := (List.range n).map Int.ofNat

theorem iotaI_succ (n : Nat) : iotaI (n + 1) = iotaI n ++ [(n : Int)] := by simp [iotaI, List.range_succ]

theorem iotaI_mem (n : Nat) (x : Int) : x ∈ iotaI n ↔ 0 ≤ x ∧ x < n := by
  simp only [iotaI, List.mem_map, List.mem_range]
  constructor
  · rintro ⟨y, h, rfl⟩; simp only [Int.ofNat_eq_natCast]; omega
  · intro h; exact ⟨x.toNat, by omega, by simp only [Int.ofNat_eq_natCast]; omega⟩

theorem iotaI_si (n : Nat) : (iotaI n).Pairwise (· < ·) := by
  induction n with
  | zero => simp [iotaI]
  | succ n ih =>
    rw [iotaI_succ, List.pairwise_append]
    refine ⟨ih, by simp, fun x hx y hy => ?_⟩
    have := (iotaI_mem n x).1 hx
    simp at hy
    omega

def usedL (p : PlanM) (k : Nat) : List Int := (p.steps.drop k).flatMap (fun s => [s.1, s.2]) ++ p.outs

theorem used_bd {p : PlanM} (hk : planOk p = true) {k : Nat} {x : Int} (hx : x ∈ usedL p k) : 0 ≤ x ∧ x < p.n + p.steps.length := by
  obtain ⟨h1, h2, h3, h4, hf, h6⟩ := planOk_out hk
  rcases List.mem_append.1 hx with h | h
  · obtain ⟨s, hs, hxs⟩ := List.mem_flatMap.1 h
    obtain ⟨i, hi, e⟩ := List.mem_iff_getElem.1 (List.mem_of_mem_drop hs)
    have hb := formedS_get hf (by rw [List.getElem?_eq_getElem hi, e])
    simp at hxs
    omega
  · have := List.all_eq_true.1 h6 x h
    simp at this
    omega

/-! ### Values that are needed after some steps -/
def hasL (D : List Int) (x : Int) : Bool := D.any fun y => y == x

theorem hasL_snoc (D : List Int) (y x : Int) : hasL (D ++ [y]) x = (hasL D x || y == x) := by simp [hasL]

def ndF (D : List Int) (v : Int) : Nat → List (Int × Int) → Bool
  | _, [] => false
  | i, s :: l => (!hasL D i && (s.1 == v || s.2 == v)) || ndF D v (i + 1) l

theorem ndF_snoc (D : List Int) (v : Int) (s : Int × Int) : ∀ (l : List (Int × Int)) (i : Nat), ndF D v i (l ++ [s]) = (ndF D v i l || (!hasL D ((i + l.length : Nat) : Int) && (s.1 == v || s.2 == v)))
  | [], i => by simp [ndF]
  | x :: l, i => by
    rw [List.cons_append, ndF, ndF_snoc D v s l (i + 1), ndF, Bool.or_assoc, List.length_cons, show i + 1 + l.length = i + (l.length + 1) by omega]

def ndP (p : PlanM) (D : List Int) (v : Int) : Bool := hasL p.outs v || ndF D v 0 p.steps

def ndK (p : PlanM) (D : List Int) (v : Int) : Bool := !(decide (v ≥ p.n) && !hasL D (v - p.n)) && ndP p D v

def needM (p : PlanM) (D : List Int) : List Int := (iotaI (p.n + p.steps.length).toNat).filter (ndK p D)

/-! Lists told by a function. -/
def fnL {α : Type} (n : Nat) (f : Int → α) : List α := (iotaI n).map f

theorem fnL_len {α : Type} (n : Nat) (f : Int → α) : (fnL n f).length = n := by simp [fnL, iotaI]

theorem iotaI_get {n j : Nat} (h : j < n) : (iotaI n)[j]? = some (j : Int) := by simp [iotaI, h]

theorem fnL_get {α : Type} {n j : Nat} {f : Int → α} (h : j < n) : (fnL n f)[j]? = some (f j) := by simp [fnL, iotaI_get h]

theorem fnL_of {α : Type} {n : Nat} {f : Int → α} {U : List α} (hl : U.length = n) (h : ∀ j : Nat, j < n → U[j]? = some (f j)) : U = fnL n f := by
  apply List.ext_getElem?
  intro j
  by_cases hj : j < n
  · rw [h j hj, fnL_get hj]
  · rw [List.getElem?_eq_none (by omega), List.getElem?_eq_none (by rw [fnL_len]; omega)]

theorem fnL_congr {α : Type} {n : Nat} {f g : Int → α} (h : ∀ x : Int, 0 ≤ x → x < n → f x = g x) : fnL n f = fnL n g :=
  fnL_of (fnL_len n f) fun j hj => by rw [fnL_get hj, h j (by omega) (by omega)]

theorem fnL_set {α : Type} {n : Nat} {f : Int → α} {x : Int} {y : α} (h0 : 0 ≤ x) : (fnL n f).set x.toNat y = fnL n (fun z => if z = x then y else f z) :=
  fnL_of (by rw [List.length_set, fnL_len]) fun j hj => by
    by_cases e : x.toNat = j
    · subst e
      rw [List.getElem?_set_self (by rw [fnL_len]; exact hj), if_pos (by omega)]
    · rw [List.getElem?_set_ne e, fnL_get hj, if_neg (by omega)]

theorem fnL_rep {α : Type} (n : Nat) (y : α) : List.replicate n y = fnL n (fun _ => y) := fnL_of (by simp) fun j hj => by simp [hj]

theorem needed_ac (p : PlanM) (D : List Int) (b : Nat) (vs vo w : AV) (h : AH) (hp : PlP h b p vs vo) (hk : planOk p = true) (hD : RdG 1 enB h w (fnL p.steps.length (hasL D))) :
    AC Try.prog 86 [.p b 0, w] h (fun r h' => Own h 1 enB h' r (fnL (p.n + p.steps.length).toNat (ndK p D))) := by
  have c0 := hp.c0
  have c1 := hp.c1
  have c2 := hp.c2
  have hs := hp.steps
  have ho := hp.outs
  have hDl := hD.len
  rw [fnL_len] at hDl
  obtain ⟨h1, h2, h3, h4, hf, h6⟩ := planOk_out hk
  refine e86 _ _ fun wf => ?_
  unfold c86
  refine LI_start wf ?_
  refine W ?_
  refine LS_c0 (fun h' HL wf => many_ac p b vs vo h' (hp.le HL.le) (by omega) (by omega) (by omega)) rfl rfl ?_
  try (dsimp only [st, setL, AV.cells, List.set_cons_zero, List.set_cons_succ, List.drop_zero, List.drop_succ_cons, List.take_zero, List.take_succ_cons, Nat.zero_add, Nat.add_zero, Nat.reduceAdd, List.cons_append, List.nil_append, List.eraseIdx_cons_zero, List.eraseIdx_cons_succ])
  refine W ?_
  refine LS_mk false rfl rfl rfl rfl rfl (by omega) (by omega) (by omega) enB1 rfl fun b2 => ?_
  try (dsimp only [st, setL, AV.cells, List.set_cons_zero, List.set_cons_succ, List.drop_zero, List.drop_succ_cons, List.take_zero, List.take_succ_cons, Nat.zero_add, Nat.add_zero, Nat.reduceAdd, List.cons_append, List.nil_append, List.eraseIdx_cons_zero, List.eraseIdx_cons_succ])
  refine W ?_
  refine LIL_ind (fun n a L => ∃ (i : Int), (∃ r : Nat → AV, a = [.p b 0, w, r 2, r 3, r 4, .sl b2 0 (p.n + p.steps.length).toNat true, r 6, r 7, r 8, r 9, r 10, r 11, r 12, r 13, r 14, r 15, r 16, r 17, vo, .i .i64 p.outs.length, .i .i64 i, r 21, r 22, r 23, r 24, r 25, r 26, r 27, r 28, r 29, r 30, r 31, r 32, r 33, r 34, r 35, r 36, r 37, r 38, r 39, r 40, r 41, r 42, r 43, r 44, r 45, r 46, r 47, r 48, r 49, r 50, r 51, r 52, r 53, r 54, r 55, r 56, r 57, r 58, r 59, r 60, r 61, r 62, r 63, r 64, r 65, r 66, r 67, r 68, r 69, r 70, r 71, r 72, r 73, r 74, r 75, r 76, r 77, r 78, r 79, r 80]) ∧ L = [.sl (.sl b2 0 (p.n + p.steps.length).toNat true) 1 ((fnL (p.n + p.steps.length).toNat (hasL (p.outs.take i.toNat))).flatMap enB)] ∧ 0 ≤ i ∧ i + n = p.outs.length)
    p.outs.length ⟨0, exJ rfl, by rw [fnL_rep]; rfl, by omega, by omega⟩ ?_
  rintro n a L ⟨i, ⟨r, rfl⟩, rfl, h0, hn⟩ IH
  refine W ?_
  (first | refine LS_gt rfl ?_ ?_ | refine LS_gf rfl ?_ ?_ | refine LI_cond rfl ?_ ?_) <;> intro hc <;> have hc' := hc <;> try simp only [decide_eq_true_eq, decide_eq_false_iff_not, Bool.not_eq_true', Bool.not_eq_false', Bool.not_eq_true, Bool.not_eq_false, beq_iff_eq, bne_iff_ne, beq_eq_false_iff_ne, bne_eq_false_iff_eq, Int.not_lt, Int.not_le, ge_iff_le, gt_iff_lt, not_and, ne_eq, Decidable.not_not] at hc'
  all_goals (try (dsimp only [st, setL, AV.cells, List.set_cons_zero, List.set_cons_succ, List.drop_zero, List.drop_succ_cons, List.take_zero, List.take_succ_cons, Nat.zero_add, Nat.add_zero, Nat.reduceAdd, List.cons_append, List.nil_append, List.eraseIdx_cons_zero, List.eraseIdx_cons_succ]))
  all_goals (refine W ?_)
  · obtain ⟨y, hy, hym, hd⟩ := drop_at (l := p.outs) h0 hc'
    have hyb := used_bd hk (k := 0) (x := y) (List.mem_append_right _ hym)
    refine LS_ix (fun h' HL => ho.le HL.le) enI1 hy h0 rfl rfl fun q o hrow => ?_
    try (dsimp only [st, setL, AV.cells, List.set_cons_zero, List.set_cons_succ, List.drop_zero, List.drop_succ_cons, List.take_zero, List.take_succ_cons, Nat.zero_add, Nat.add_zero, Nat.reduceAdd, List.cons_append, List.nil_append, List.eraseIdx_cons_zero, List.eraseIdx_cons_succ])
    refine W ?_
    refine LS_is hyb.1 (by omega) rfl rfl ?_
    try (dsimp only [st, setL, AV.cells, List.set_cons_zero, List.set_cons_succ, List.drop_zero, List.drop_succ_cons, List.take_zero, List.take_succ_cons, Nat.zero_add, Nat.add_zero, Nat.reduceAdd, List.cons_append, List.nil_append, List.eraseIdx_cons_zero, List.eraseIdx_cons_succ])
    refine W ?_
    refine LS_ss true 0 y.toNat rfl (by rw [fnL_len]; omega) (by omega) rfl enB1 (by decide) rfl rfl rfl ?_
    try (dsimp only [st, setL, AV.cells, List.set_cons_zero, List.set_cons_succ, List.drop_zero, List.drop_succ_cons, List.take_zero, List.take_succ_cons, Nat.zero_add, Nat.add_zero, Nat.reduceAdd, List.cons_append, List.nil_append, List.eraseIdx_cons_zero, List.eraseIdx_cons_succ])
    refine W ?_
    refine IH (n - 1) _ _ (by omega) ⟨i + 1, exJ rfl, ?_, by omega, by omega⟩
    rw [fnL_set hyb.1, toNat_succ h0, take_snoc hy]
    congr 3
    refine fnL_congr fun x _ _ => ?_
    rw [hasL_snoc]
    by_cases e : x = y
    · simp [e]
    · simp [e, Ne.symm e]
  · have ei : i.toNat = p.outs.length := by omega
    rw [ei, List.take_length]
    clear IH
    refine W ?_
    refine LIL_ind (fun n a L => ∃ (i : Int), (∃ r : Nat → AV, a = [.p b 0, w, r 2, r 3, r 4, .sl b2 0 (p.n + p.steps.length).toNat true, r 6, r 7, r 8, r 9, r 10, r 11, r 12, r 13, r 14, r 15, r 16, r 17, r 18, r 19, r 20, r 21, r 22, r 23, r 24, r 25, r 26, r 27, r 28, r 29, r 30, vs, .i .i64 p.steps.length, .i .i64 i, r 34, r 35, r 36, r 37, r 38, r 39, r 40, r 41, r 42, r 43, r 44, r 45, r 46, r 47, r 48, r 49, r 50, r 51, r 52, r 53, r 54, r 55, r 56, r 57, r 58, r 59, r 60, r 61, r 62, r 63, r 64, r 65, r 66, r 67, r 68, r 69, r 70, r 71, r 72, r 73, r 74, r 75, r 76, r 77, r 78, r 79, r 80]) ∧ L = [.sl (.sl b2 0 (p.n + p.steps.length).toNat true) 1 ((fnL (p.n + p.steps.length).toNat (fun v => hasL p.outs v || ndF D v 0 (p.steps.take i.toNat))).flatMap enB)] ∧ 0 ≤ i ∧ i + n = p.steps.length)
      p.steps.length ⟨0, exJ rfl, by simp [ndF], by omega, by omega⟩ ?_
    rintro n a L ⟨i, ⟨r, rfl⟩, rfl, h0, hn⟩ IH
    refine W ?_
    (first | refine LS_gt rfl ?_ ?_ | refine LS_gf rfl ?_ ?_ | refine LI_cond rfl ?_ ?_) <;> intro hc <;> have hc' := hc <;> try simp only [decide_eq_true_eq, decide_eq_false_iff_not, Bool.not_eq_true', Bool.not_eq_false', Bool.not_eq_true, Bool.not_eq_false, beq_iff_eq, bne_iff_ne, beq_eq_false_iff_ne, bne_eq_false_iff_eq, Int.not_lt, Int.not_le, ge_iff_le, gt_iff_lt, not_and, ne_eq, Decidable.not_not] at hc'
    all_goals (try (dsimp only [st, setL, AV.cells, List.set_cons_zero, List.set_cons_succ, List.drop_zero, List.drop_succ_cons, List.take_zero, List.take_succ_cons, Nat.zero_add, Nat.add_zero, Nat.reduceAdd, List.cons_append, List.nil_append, List.eraseIdx_cons_zero, List.eraseIdx_cons_succ]))
    all_goals (refine W ?_)
    · have hil := hc'
      obtain ⟨s, hs', hsm, hd⟩ := drop_at (l := p.steps) h0 (by omega)
      have hii : ((i.toNat : Nat) : Int) = i := by omega
      have hb1 := used_bd hk (k := 0) (x := s.1) (List.mem_append_left _ (List.mem_flatMap.2 ⟨s, by simpa using hsm, by simp⟩))
      have hb2 := used_bd hk (k := 0) (x := s.2) (List.mem_append_left _ (List.mem_flatMap.2 ⟨s, by simpa using hsm, by simp⟩))
      have hq' : ∀ x, (hasL p.outs x || ndF D x 0 (p.steps.take (i + 1).toNat)) = ((hasL p.outs x || ndF D x 0 (p.steps.take i.toNat)) || (!hasL D i && (s.1 == x || s.2 == x))) := fun x => by
        rw [toNat_succ h0, take_snoc hs', ndF_snoc, List.length_take, Nat.min_eq_left (by omega), Nat.zero_add, hii, ← Bool.or_assoc]
      have hdn : (fnL p.steps.length (hasL D))[i.toNat]? = some (hasL D i) := by rw [fnL_get (by omega), hii]
      refine LS_ix (fun h' HL => hs.le HL.le) enStep2 hs' h0 rfl rfl fun q o hrow => ?_
      try (dsimp only [st, setL, AV.cells, List.set_cons_zero, List.set_cons_succ, List.drop_zero, List.drop_succ_cons, List.take_zero, List.take_succ_cons, Nat.zero_add, Nat.add_zero, Nat.reduceAdd, List.cons_append, List.nil_append, List.eraseIdx_cons_zero, List.eraseIdx_cons_succ])
      refine W ?_
      refine LS_al rfl fun b3 => ?_
      try (dsimp only [st, setL, AV.cells, List.set_cons_zero, List.set_cons_succ, List.drop_zero, List.drop_succ_cons, List.take_zero, List.take_succ_cons, Nat.zero_add, Nat.add_zero, Nat.reduceAdd, List.cons_append, List.nil_append, List.eraseIdx_cons_zero, List.eraseIdx_cons_succ])
      refine W ?_
      refine LS_ix (fun h' HL => hD.le HL.le) enB1 hdn h0 rfl rfl fun q1 o1 hrow1 => ?_
      try (dsimp only [st, setL, AV.cells, List.set_cons_zero, List.set_cons_succ, List.drop_zero, List.drop_succ_cons, List.take_zero, List.take_succ_cons, Nat.zero_add, Nat.add_zero, Nat.reduceAdd, List.cons_append, List.nil_append, List.eraseIdx_cons_zero, List.eraseIdx_cons_succ])
      refine W ?_
      (first | refine LS_gt rfl ?_ ?_ | refine LS_gf rfl ?_ ?_ | refine LI_cond rfl ?_ ?_) <;> intro hc <;> have hc' := hc <;> try simp only [decide_eq_true_eq, decide_eq_false_iff_not, Bool.not_eq_true', Bool.not_eq_false', Bool.not_eq_true, Bool.not_eq_false, beq_iff_eq, bne_iff_ne, beq_eq_false_iff_ne, bne_eq_false_iff_eq, Int.not_lt, Int.not_le, ge_iff_le, gt_iff_lt, not_and, ne_eq, Decidable.not_not] at hc'
      all_goals (try (dsimp only [st, setL, AV.cells, List.set_cons_zero, List.set_cons_succ, List.drop_zero, List.drop_succ_cons, List.take_zero, List.take_succ_cons, Nat.zero_add, Nat.add_zero, Nat.reduceAdd, List.cons_append, List.nil_append, List.eraseIdx_cons_zero, List.eraseIdx_cons_succ]))
      all_goals (refine W ?_)
      · refine dk86_0 [(b3, enStep s)] (by simp) ?_
        refine WX ?_
        refine LX_k 0 noG rfl rfl rfl rfl ?_
        try (dsimp only [st, setL, AV.cells, List.set_cons_zero, List.set_cons_succ, List.drop_zero, List.drop_succ_cons, List.take_zero, List.take_succ_cons, Nat.zero_add, Nat.add_zero, Nat.reduceAdd, List.cons_append, List.nil_append, List.eraseIdx_cons_zero, List.eraseIdx_cons_succ])
        refine WX ?_
        refine W ?_
        refine LX_is hb1.1 (by omega) rfl rfl noG ?_
        try (dsimp only [st, setL, AV.cells, List.set_cons_zero, List.set_cons_succ, List.drop_zero, List.drop_succ_cons, List.take_zero, List.take_succ_cons, Nat.zero_add, Nat.add_zero, Nat.reduceAdd, List.cons_append, List.nil_append, List.eraseIdx_cons_zero, List.eraseIdx_cons_succ])
        refine WX ?_
        refine W ?_
        refine LX_fK noG (LO_ss true 1 s.1.toNat rfl (by rw [fnL_len]; omega) (by omega) rfl enB1 (by decide) rfl rfl rfl ⟨by simp, ?_⟩)
        try (dsimp only [st, setL, AV.cells, List.set_cons_zero, List.set_cons_succ, List.drop_zero, List.drop_succ_cons, List.take_zero, List.take_succ_cons, Nat.zero_add, Nat.add_zero, Nat.reduceAdd, List.cons_append, List.nil_append, List.eraseIdx_cons_zero, List.eraseIdx_cons_succ])
        refine WX ?_
        refine W ?_
        refine LX_is hb2.1 (by omega) rfl rfl noG ?_
        try (dsimp only [st, setL, AV.cells, List.set_cons_zero, List.set_cons_succ, List.drop_zero, List.drop_succ_cons, List.take_zero, List.take_succ_cons, Nat.zero_add, Nat.add_zero, Nat.reduceAdd, List.cons_append, List.nil_append, List.eraseIdx_cons_zero, List.eraseIdx_cons_succ])
        refine WX ?_
        refine W ?_
        refine LX_fK noG (LO_ss true 1 s.2.toNat rfl (by rw [List.length_set, fnL_len]; omega) (by omega) rfl enB1 (by decide) rfl rfl rfl ⟨by simp, ?_⟩)
        try (dsimp only [st, setL, AV.cells, List.set_cons_zero, List.set_cons_succ, List.drop_zero, List.drop_succ_cons, List.take_zero, List.take_succ_cons, Nat.zero_add, Nat.add_zero, Nat.reduceAdd, List.cons_append, List.nil_append, List.eraseIdx_cons_zero, List.eraseIdx_cons_succ])
        refine WX ?_
        refine W ?_
        refine LIL_drop 1 ?_
        refine IH (n - 1) _ _ (by omega) ⟨i + 1, exJ rfl, ?_, by omega, by omega⟩
        rw [fnL_set hb1.1, fnL_set hb2.1]
        simp only [List.drop_succ_cons, List.drop_zero]
        congr 3
        refine fnL_congr fun x _ _ => ?_
        rw [hq', nt hc]
        by_cases e1 : x = s.1
        · simp [e1]
        · by_cases e2 : x = s.2
          · simp [e2]
          · simp [e1, e2, Ne.symm e1, Ne.symm e2]
      · refine LIL_drop 1 ?_
        refine IH (n - 1) _ _ (by omega) ⟨i + 1, exJ rfl, ?_, by omega, by omega⟩
        simp only [List.drop_succ_cons, List.drop_zero]
        congr 3
        refine fnL_congr fun x _ _ => ?_
        rw [hq', nf hc]
        simp
    · have ei : i.toNat = p.steps.length := by omega
      rw [ei, List.take_length]
      clear IH
      refine W ?_
      refine LIL_ind (fun n a L => ∃ (i : Int), (∃ r : Nat → AV, a = [.p b 0, r 1, r 2, r 3, r 4, .sl b2 0 (p.n + p.steps.length).toNat true, r 6, r 7, r 8, r 9, r 10, r 11, r 12, r 13, r 14, r 15, r 16, r 17, r 18, r 19, r 20, r 21, r 22, r 23, r 24, r 25, r 26, r 27, r 28, r 29, r 30, r 31, r 32, r 33, r 34, r 35, r 36, r 37, r 38, r 39, r 40, r 41, r 42, r 43, r 44, r 45, r 46, r 47, r 48, r 49, r 50, r 51, w, .i .i64 p.steps.length, .i .i64 i, r 55, r 56, r 57, r 58, r 59, r 60, r 61, r 62, r 63, r 64, r 65, r 66, r 67, r 68, r 69, r 70, r 71, r 72, r 73, r 74, r 75, r 76, r 77, r 78, r 79, r 80]) ∧ L = [.sl (.sl b2 0 (p.n + p.steps.length).toNat true) 1 ((fnL (p.n + p.steps.length).toNat (fun v => ndP p D v && (decide (v < p.n) || decide (v ≥ p.n + i) || hasL D (v - p.n)))).flatMap enB)] ∧ 0 ≤ i ∧ i + n = p.steps.length)
        p.steps.length ⟨0, exJ rfl, ?_, by omega, by omega⟩ ?_
      · congr 3
        refine fnL_congr fun x _ _ => ?_
        rw [show (decide (x < p.n) || decide (x ≥ p.n + 0)) = true by simp; omega]
        simp [ndP]
      rintro n a L ⟨i, ⟨r, rfl⟩, rfl, h0, hn⟩ IH
      refine W ?_
      (first | refine LS_gt rfl ?_ ?_ | refine LS_gf rfl ?_ ?_ | refine LI_cond rfl ?_ ?_) <;> intro hc <;> have hc' := hc <;> try simp only [decide_eq_true_eq, decide_eq_false_iff_not, Bool.not_eq_true', Bool.not_eq_false', Bool.not_eq_true, Bool.not_eq_false, beq_iff_eq, bne_iff_ne, beq_eq_false_iff_ne, bne_eq_false_iff_eq, Int.not_lt, Int.not_le, ge_iff_le, gt_iff_lt, not_and, ne_eq, Decidable.not_not] at hc'
      all_goals (try (dsimp only [st, setL, AV.cells, List.set_cons_zero, List.set_cons_succ, List.drop_zero, List.drop_succ_cons, List.take_zero, List.take_succ_cons, Nat.zero_add, Nat.add_zero, Nat.reduceAdd, List.cons_append, List.nil_append, List.eraseIdx_cons_zero, List.eraseIdx_cons_succ]))
      all_goals (refine W ?_)
      · have hil := hc'
        have hii : ((i.toNat : Nat) : Int) = i := by omega
        have hdn : (fnL p.steps.length (hasL D))[i.toNat]? = some (hasL D i) := by rw [fnL_get (by omega), hii]
        have hun : (fnL (p.n + p.steps.length).toNat (fun v => ndP p D v && (decide (v < p.n) || decide (v ≥ p.n + i) || hasL D (v - p.n))))[(p.n + i).toNat]? = some (ndP p D (p.n + i)) := by
          rw [fnL_get (by omega), show (((p.n + i).toNat : Nat) : Int) = p.n + i by omega]
          simp
        have hfin : ∀ t, t = (ndP p D (p.n + i) && hasL D i) → (fnL (p.n + p.steps.length).toNat (fun v => ndP p D v && (decide (v < p.n) || decide (v ≥ p.n + i) || hasL D (v - p.n)))).set (p.n + i).toNat t = fnL (p.n + p.steps.length).toNat (fun v => ndP p D v && (decide (v < p.n) || decide (v ≥ p.n + (i + 1)) || hasL D (v - p.n))) := fun t ht => by
          rw [fnL_set (by omega)]
          refine fnL_congr fun x _ _ => ?_
          by_cases e : x = p.n + i
          · rw [if_pos e, ht, e, show p.n + i - p.n = i by omega, show decide (p.n + i < p.n) = false by simp; omega, show decide (p.n + i ≥ p.n + (i + 1)) = false by simp; omega]
            rfl
          · rw [if_neg e, show decide (x ≥ p.n + i) = decide (x ≥ p.n + (i + 1)) by simp; omega]
        generalize hasL D i = tD at hdn hfin
        generalize ndP p D (p.n + i) = tP at hun hfin
        refine LS_ix (fun h' HL => hD.le HL.le) enB1 hdn h0 rfl rfl fun q1 o1 hrow1 => ?_
        try (dsimp only [st, setL, AV.cells, List.set_cons_zero, List.set_cons_succ, List.drop_zero, List.drop_succ_cons, List.take_zero, List.take_succ_cons, Nat.zero_add, Nat.add_zero, Nat.reduceAdd, List.cons_append, List.nil_append, List.eraseIdx_cons_zero, List.eraseIdx_cons_succ])
        refine W ?_
        cases tP
        · refine dz86_1 ?_
          refine WX ?_
          refine W ?_
          refine LX_ix (fun h' HL => HL.rdI 0 rfl enB1 (by decide)) enB1 hun (by omega) rfl rfl noG fun q2 o2 hrow2 => ?_
          try (dsimp only [st, setL, AV.cells, List.set_cons_zero, List.set_cons_succ, List.drop_zero, List.drop_succ_cons, List.take_zero, List.take_succ_cons, Nat.zero_add, Nat.add_zero, Nat.reduceAdd, List.cons_append, List.nil_append, List.eraseIdx_cons_zero, List.eraseIdx_cons_succ])
          refine WX ?_
          refine W ?_
          refine LX_is (j := p.n + i) (by omega) (by omega) rfl rfl noG ?_
          try (dsimp only [st, setL, AV.cells, List.set_cons_zero, List.set_cons_succ, List.drop_zero, List.drop_succ_cons, List.take_zero, List.take_succ_cons, Nat.zero_add, Nat.add_zero, Nat.reduceAdd, List.cons_append, List.nil_append, List.eraseIdx_cons_zero, List.eraseIdx_cons_succ])
          refine WX ?_
          refine W ?_
          refine LX_f noG (LO_ss false 0 (p.n + i).toNat rfl (by rw [fnL_len]; omega) (by omega) rfl enB1 (by decide) rfl rfl rfl ?_)
          try (dsimp only [st, setL, AV.cells, List.set_cons_zero, List.set_cons_succ, List.drop_zero, List.drop_succ_cons, List.take_zero, List.take_succ_cons, Nat.zero_add, Nat.add_zero, Nat.reduceAdd, List.cons_append, List.nil_append, List.eraseIdx_cons_zero, List.eraseIdx_cons_succ])
          refine WX ?_
          refine W ?_
          refine IH (n - 1) _ _ (by omega) ⟨i + 1, exJ rfl, by rw [← hfin _ rfl]; simp, by omega, by omega⟩
        · refine dz86_1 ?_
          refine WX ?_
          refine W ?_
          refine LX_ix (fun h' HL => HL.rdI 0 rfl enB1 (by decide)) enB1 hun (by omega) rfl rfl noG fun q2 o2 hrow2 => ?_
          try (dsimp only [st, setL, AV.cells, List.set_cons_zero, List.set_cons_succ, List.drop_zero, List.drop_succ_cons, List.take_zero, List.take_succ_cons, Nat.zero_add, Nat.add_zero, Nat.reduceAdd, List.cons_append, List.nil_append, List.eraseIdx_cons_zero, List.eraseIdx_cons_succ])
          refine WX ?_
          refine W ?_
          refine LX_is (j := p.n + i) (by omega) (by omega) rfl rfl noG ?_
          try (dsimp only [st, setL, AV.cells, List.set_cons_zero, List.set_cons_succ, List.drop_zero, List.drop_succ_cons, List.take_zero, List.take_succ_cons, Nat.zero_add, Nat.add_zero, Nat.reduceAdd, List.cons_append, List.nil_append, List.eraseIdx_cons_zero, List.eraseIdx_cons_succ])
          refine WX ?_
          refine W ?_
          refine LX_f noG (LO_ss tD 0 (p.n + i).toNat rfl (by rw [fnL_len]; omega) (by omega) rfl enB1 (by decide) rfl rfl rfl ?_)
          try (dsimp only [st, setL, AV.cells, List.set_cons_zero, List.set_cons_succ, List.drop_zero, List.drop_succ_cons, List.take_zero, List.take_succ_cons, Nat.zero_add, Nat.add_zero, Nat.reduceAdd, List.cons_append, List.nil_append, List.eraseIdx_cons_zero, List.eraseIdx_cons_succ])
          refine WX ?_
          refine W ?_
          refine IH (n - 1) _ _ (by omega) ⟨i + 1, exJ rfl, by rw [← hfin _ rfl]; simp, by omega, by omega⟩
      · have e2 : fnL (p.n + p.steps.length).toNat (fun v => ndP p D v && (decide (v < p.n) || decide (v ≥ p.n + i) || hasL D (v - p.n))) = fnL (p.n + p.steps.length).toNat (ndK p D) := fnL_congr fun x hx0 hx1 => by
          rw [show decide (x ≥ p.n + i) = false by simp; omega, ndK]
          by_cases e : x < p.n
          · simp [e, show ¬ (p.n ≤ x) by omega]
          · simp [e, show p.n ≤ x by omega, Bool.and_comm]
        refine RET fun h' HL => ?_
        try dsimp only [oneA]
        rw [← e2]
        exact HL.ownI 0 rfl enB1 (by decide)

theorem iotaI_len (n : Nat) : (iotaI n).length = n := by simp [iotaI]

/-! ### Pressure -/
def heldM (p : PlanM) (D : List Int) (i : Int) : Int := ((putL (needM p D) (p.n + i)).length : Int)

theorem putL_filter {n : Nat} {f : Int → Bool} {x : Int} (h0 : 0 ≤ x) (h1 : x < n) : putL ((iotaI n).filter f) x = (iotaI n).filter (fun y => if y = x then true else f y) := by
  refine si_ext (putL_si (List.Pairwise.filter _ (iotaI_si _))) (List.Pairwise.filter _ (iotaI_si _)) fun y => ?_
  rw [putL_mem]
  simp only [List.mem_filter, iotaI_mem]
  constructor
  · rintro (rfl | ⟨h2, h3⟩)
    · exact ⟨⟨h0, h1⟩, by simp⟩
    · exact ⟨h2, by split <;> simp [h3]⟩
  · rintro ⟨h2, h3⟩
    by_cases e : y = x
    · exact .inl e
    · rw [if_neg e] at h3
      exact .inr ⟨h2, h3⟩

theorem heldM_eq {p : PlanM} {D : List Int} {i : Int} (hn : 1 ≤ p.n) (h0 : 0 ≤ i) (h1 : i < p.steps.length) : heldM p D i = (((iotaI (p.n + p.steps.length).toNat).filter (fun y => if y = p.n + i then true else ndK p D y)).length : Int) := by
  unfold heldM needM
  rw [putL_filter (by omega) (by omega)]

theorem heldM_bd {p : PlanM} {D : List Int} {i : Int} (hn : 1 ≤ p.n) (h0 : 0 ≤ i) (h1 : i < p.steps.length) : heldM p D i ≤ p.n + p.steps.length := by
  rw [heldM_eq hn h0 h1]
  have := List.length_filter_le (fun y => if y = p.n + i then true else ndK p D y) (iotaI (p.n + p.steps.length).toNat)
  rw [iotaI_len] at this
  omega

def mxI (a b : Int) : Int := if b > a then b else a

def pressF (p : PlanM) : List Int → Int → List Int → Int
  | _, m, [] => m
  | D, m, i :: l => pressF p (D ++ [i]) (mxI m (heldM p (D ++ [i]) i)) l

def pressM (p : PlanM) (O : List Int) : Int := pressF p [] p.n O

theorem pressF_bd {p : PlanM} (hn : 1 ≤ p.n) : ∀ (O D : List Int) (m : Int), (∀ i ∈ O, 0 ≤ i ∧ i < p.steps.length) → m ≤ p.n + p.steps.length → pressF p D m O ≤ p.n + p.steps.length
  | [], D, m, _, h => h
  | i :: O, D, m, ho, h => by
    have h1 := ho i (by simp)
    have := heldM_bd (D := D ++ [i]) hn h1.1 h1.2
    unfold pressF
    refine pressF_bd hn O _ _ (fun j hj => ho j (by simp [hj])) ?_
    unfold mxI
    split <;> omega

theorem held_ac (p : PlanM) (D : List Int) (i : Int) (b : Nat) (vs vo w : AV) (h : AH) (hp : PlP h b p vs vo) (hk : planOk p = true) (hD : RdG 1 enB h w (fnL p.steps.length (hasL D))) (hi0 : 0 ≤ i) (hi1 : i < p.steps.length) :
    AC Try.prog 128 [.p b 0, w, .i .i64 i] h (fun r h' => r = .i .i64 (heldM p D i) ∧ h.le h') := by
  have c0 := hp.c0
  obtain ⟨h1, h2, h3, h4, hf, h6⟩ := planOk_out hk
  rw [heldM_eq h1 hi0 hi1]
  refine e128 _ _ _ fun wf => ?_
  unfold c128
  refine LI_start wf ?_
  refine W ?_
  refine LS_co (fun h' HL wf => needed_ac p D b vs vo w h' (hp.le HL.le) hk (hD.le HL.le)) enB1 rfl rfl fun w2 hw2 sw2 => ?_
  try (dsimp only [st, setL, AV.cells, List.set_cons_zero, List.set_cons_succ, List.drop_zero, List.drop_succ_cons, List.take_zero, List.take_succ_cons, Nat.zero_add, Nat.add_zero, Nat.reduceAdd, List.cons_append, List.nil_append, List.eraseIdx_cons_zero, List.eraseIdx_cons_succ])
  refine W ?_
  rw [fnL_len] at hw2
  obtain ⟨b2, o2, c2, rfl⟩ := sl_of hw2 (by omega)
  refine LS_is (j := p.n + i) (by omega) (by omega) rfl rfl ?_
  try (dsimp only [st, setL, AV.cells, List.set_cons_zero, List.set_cons_succ, List.drop_zero, List.drop_succ_cons, List.take_zero, List.take_succ_cons, Nat.zero_add, Nat.add_zero, Nat.reduceAdd, List.cons_append, List.nil_append, List.eraseIdx_cons_zero, List.eraseIdx_cons_succ])
  refine W ?_
  refine LS_ss true 0 (p.n + i).toNat rfl (by rw [fnL_len]; omega) rfl rfl enB1 (by decide) rfl rfl rfl ?_
  try (dsimp only [st, setL, AV.cells, List.set_cons_zero, List.set_cons_succ, List.drop_zero, List.drop_succ_cons, List.take_zero, List.take_succ_cons, Nat.zero_add, Nat.add_zero, Nat.reduceAdd, List.cons_append, List.nil_append, List.eraseIdx_cons_zero, List.eraseIdx_cons_succ])
  refine W ?_
  rw [fnL_set (by omega)]
  generalize hG : (fun y => if y = p.n + i then true else ndK p D y) = G
  refine W ?_
  refine LIL_ind (fun n a L => ∃ (x m : Int), (∃ r : Nat → AV, a = [r 0, r 1, r 2, r 3, r 4, r 5, r 6, r 7, .i .i64 m, r 9, r 10, r 11, r 12, r 13, r 14, r 15, r 16, r 17, r 18, r 19, r 20, r 21, .sl b2 o2 (p.n + p.steps.length).toNat c2, .i .i64 ((p.n + p.steps.length).toNat : Nat), .i .i64 x, r 25, r 26, r 27, r 28, r 29, r 30, r 31, r 32]) ∧ L = [.sl (.sl b2 o2 (p.n + p.steps.length).toNat c2) 1 ((fnL (p.n + p.steps.length).toNat G).flatMap enB)] ∧ 0 ≤ x ∧ x + n = p.n + p.steps.length ∧ m = ((iotaI x.toNat).filter G).length)
    (p.n + p.steps.length).toNat ⟨0, 0, exJ rfl, rfl, by omega, by omega, rfl⟩ ?_
  rintro n a L ⟨x, m, ⟨r, rfl⟩, rfl, h0, hn, hm⟩ IH
  have hel := List.length_filter_le G (iotaI x.toNat)
  rw [iotaI_len] at hel
  have hii : ((x.toNat : Nat) : Int) = x := by omega
  have hnx : (iotaI (x + 1).toNat).filter G = (iotaI x.toNat).filter G ++ [x].filter G := by
    rw [toNat_succ h0, iotaI_succ, List.filter_append, hii]
  rw [List.filter_cons, List.filter_nil] at hnx
  refine W ?_
  (first | refine LS_gt rfl ?_ ?_ | refine LS_gf rfl ?_ ?_ | refine LI_cond rfl ?_ ?_) <;> intro hc <;> have hc' := hc <;> try simp only [decide_eq_true_eq, decide_eq_false_iff_not, Bool.not_eq_true', Bool.not_eq_false', Bool.not_eq_true, Bool.not_eq_false, beq_iff_eq, bne_iff_ne, beq_eq_false_iff_ne, bne_eq_false_iff_eq, Int.not_lt, Int.not_le, ge_iff_le, gt_iff_lt, not_and, ne_eq, Decidable.not_not] at hc'
  all_goals (try (dsimp only [st, setL, AV.cells, List.set_cons_zero, List.set_cons_succ, List.drop_zero, List.drop_succ_cons, List.take_zero, List.take_succ_cons, Nat.zero_add, Nat.add_zero, Nat.reduceAdd, List.cons_append, List.nil_append, List.eraseIdx_cons_zero, List.eraseIdx_cons_succ]))
  all_goals (refine W ?_)
  · have hu : (fnL (p.n + p.steps.length).toNat G)[x.toNat]? = some (G x) := by rw [fnL_get (by omega), hii]
    refine LS_ix (fun h' HL => HL.rdI 0 rfl enB1 (by decide)) enB1 hu h0 rfl rfl fun q o hrow => ?_
    try (dsimp only [st, setL, AV.cells, List.set_cons_zero, List.set_cons_succ, List.drop_zero, List.drop_succ_cons, List.take_zero, List.take_succ_cons, Nat.zero_add, Nat.add_zero, Nat.reduceAdd, List.cons_append, List.nil_append, List.eraseIdx_cons_zero, List.eraseIdx_cons_succ])
    refine W ?_
    (first | refine LS_gt rfl ?_ ?_ | refine LS_gf rfl ?_ ?_ | refine LI_cond rfl ?_ ?_) <;> intro hc <;> have hc' := hc <;> try simp only [decide_eq_true_eq, decide_eq_false_iff_not, Bool.not_eq_true', Bool.not_eq_false', Bool.not_eq_true, Bool.not_eq_false, beq_iff_eq, bne_iff_ne, beq_eq_false_iff_ne, bne_eq_false_iff_eq, Int.not_lt, Int.not_le, ge_iff_le, gt_iff_lt, not_and, ne_eq, Decidable.not_not] at hc'
    all_goals (try (dsimp only [st, setL, AV.cells, List.set_cons_zero, List.set_cons_succ, List.drop_zero, List.drop_succ_cons, List.take_zero, List.take_succ_cons, Nat.zero_add, Nat.add_zero, Nat.reduceAdd, List.cons_append, List.nil_append, List.eraseIdx_cons_zero, List.eraseIdx_cons_succ]))
    all_goals (refine W ?_)
    · rw [hc, if_pos rfl] at hnx
      refine IH (n - 1) _ _ (by omega) ⟨x + 1, _, exJ rfl, rfl, by omega, by omega, by rw [hnx, List.length_append, hm]; rfl⟩
    · rw [hc, if_neg (by simp), List.append_nil] at hnx
      refine IH (n - 1) _ _ (by omega) ⟨x + 1, _, exJ rfl, rfl, by omega, by omega, by rw [hnx, hm]⟩
  · have ex : x.toNat = (p.n + p.steps.length).toNat := by omega
    rw [ex] at hm
    refine RET fun h' HL => ?_
    try dsimp only [oneA]
    exact ⟨by rw [hm], HL.le⟩

theorem pressure_ac (p : PlanM) (O : List Int) (b : Nat) (vs vo w : AV) (h : AH) (hp : PlP h b p vs vo) (hk : planOk p = true) (hO : Rd h w O) (hOl : O.length ≤ 1048576) (hOb : ∀ i ∈ O, 0 ≤ i ∧ i < p.steps.length) :
    AC Try.prog 93 [.p b 0, w] h (fun r h' => r = .i .i64 (pressM p O) ∧ h.le h') := by
  have c0 := hp.c0
  have c1 := hp.c1
  have c2 := hp.c2
  have hs := hp.steps
  obtain ⟨h1, h2, h3, h4, hf, h6⟩ := planOk_out hk
  refine e93 _ _ fun wf => ?_
  unfold c93
  refine LI_start wf ?_
  refine W ?_
  refine dz93_0 ?_
  refine WX ?_
  refine W ?_
  refine LX_mk false rfl rfl rfl rfl rfl (by omega) (by omega) (by omega) enB1 rfl noG fun b2 => ?_
  try (dsimp only [st, setL, AV.cells, List.set_cons_zero, List.set_cons_succ, List.drop_zero, List.drop_succ_cons, List.take_zero, List.take_succ_cons, Nat.zero_add, Nat.add_zero, Nat.reduceAdd, List.cons_append, List.nil_append, List.eraseIdx_cons_zero, List.eraseIdx_cons_succ])
  refine WX ?_
  refine W ?_
  refine LIL_ind (fun n a L => ∃ (k m : Int), (∃ r : Nat → AV, a = [.p b 0, r 1, r 2, r 3, r 4, .i .i64 m, .sl b2 0 (p.steps.length : Int).toNat true, r 7, r 8, r 9, r 10, r 11, r 12, r 13, r 14, r 15, r 16, r 17, r 18, w, .i .i64 O.length, .i .i64 k, r 22, r 23, r 24, r 25, r 26, r 27, r 28, r 29, r 30, r 31, r 32, r 33, r 34, r 35]) ∧ L = [.sl (.sl b2 0 (p.steps.length : Int).toNat true) 1 ((fnL p.steps.length (hasL (O.take k.toNat))).flatMap enB)] ∧ 0 ≤ k ∧ k + n = O.length ∧ pressM p O = pressF p (O.take k.toNat) m (O.drop k.toNat))
    O.length ⟨0, p.n, exJ rfl, by rw [fnL_rep]; rfl, by omega, by omega, rfl⟩ ?_
  rintro n a L ⟨k, m, ⟨r, rfl⟩, rfl, h0, hn, heq⟩ IH
  refine W ?_
  (first | refine LS_gt rfl ?_ ?_ | refine LS_gf rfl ?_ ?_ | refine LI_cond rfl ?_ ?_) <;> intro hc <;> have hc' := hc <;> try simp only [decide_eq_true_eq, decide_eq_false_iff_not, Bool.not_eq_true', Bool.not_eq_false', Bool.not_eq_true, Bool.not_eq_false, beq_iff_eq, bne_iff_ne, beq_eq_false_iff_ne, bne_eq_false_iff_eq, Int.not_lt, Int.not_le, ge_iff_le, gt_iff_lt, not_and, ne_eq, Decidable.not_not] at hc'
  all_goals (try (dsimp only [st, setL, AV.cells, List.set_cons_zero, List.set_cons_succ, List.drop_zero, List.drop_succ_cons, List.take_zero, List.take_succ_cons, Nat.zero_add, Nat.add_zero, Nat.reduceAdd, List.cons_append, List.nil_append, List.eraseIdx_cons_zero, List.eraseIdx_cons_succ]))
  all_goals (refine W ?_)
  · obtain ⟨i, hi, him, hd⟩ := drop_at (l := O) h0 hc'
    have hib := hOb i him
    rw [hd, pressF] at heq
    have htk : O.take (k + 1).toNat = O.take k.toNat ++ [i] := by rw [toNat_succ h0, take_snoc hi]
    have hset : (fnL p.steps.length (hasL (O.take k.toNat))).set i.toNat true = fnL p.steps.length (hasL (O.take k.toNat ++ [i])) := by
      rw [fnL_set hib.1]
      refine fnL_congr fun x _ _ => ?_
      rw [hasL_snoc]
      by_cases e : x = i
      · simp [e]
      · simp [e, Ne.symm e]
    refine LS_ix (fun h' HL => hO.le HL.le) enI1 hi h0 rfl rfl fun q o hrow => ?_
    try (dsimp only [st, setL, AV.cells, List.set_cons_zero, List.set_cons_succ, List.drop_zero, List.drop_succ_cons, List.take_zero, List.take_succ_cons, Nat.zero_add, Nat.add_zero, Nat.reduceAdd, List.cons_append, List.nil_append, List.eraseIdx_cons_zero, List.eraseIdx_cons_succ])
    refine W ?_
    refine LS_is hib.1 (by omega) rfl rfl ?_
    try (dsimp only [st, setL, AV.cells, List.set_cons_zero, List.set_cons_succ, List.drop_zero, List.drop_succ_cons, List.take_zero, List.take_succ_cons, Nat.zero_add, Nat.add_zero, Nat.reduceAdd, List.cons_append, List.nil_append, List.eraseIdx_cons_zero, List.eraseIdx_cons_succ])
    refine W ?_
    refine LS_ss true 0 i.toNat rfl (by rw [fnL_len]; omega) (by omega) rfl enB1 (by decide) rfl rfl rfl ?_
    try (dsimp only [st, setL, AV.cells, List.set_cons_zero, List.set_cons_succ, List.drop_zero, List.drop_succ_cons, List.take_zero, List.take_succ_cons, Nat.zero_add, Nat.add_zero, Nat.reduceAdd, List.cons_append, List.nil_append, List.eraseIdx_cons_zero, List.eraseIdx_cons_succ])
    refine W ?_
    rw [hset]
    refine LS_c0 (fun h' HL wf => held_ac p (O.take k.toNat ++ [i]) i b vs vo _ h' (hp.le HL.le) hk (HL.rdI 0 rfl enB1 (by decide)) hib.1 hib.2) rfl rfl ?_
    try (dsimp only [st, setL, AV.cells, List.set_cons_zero, List.set_cons_succ, List.drop_zero, List.drop_succ_cons, List.take_zero, List.take_succ_cons, Nat.zero_add, Nat.add_zero, Nat.reduceAdd, List.cons_append, List.nil_append, List.eraseIdx_cons_zero, List.eraseIdx_cons_succ])
    refine W ?_
    refine IH (n - 1) _ _ (by omega) ⟨k + 1, _, exJ rfl, by rw [htk], by omega, by omega, ?_⟩
    rw [heq, htk, toNat_succ h0]
    rfl
  · rw [List.drop_eq_nil_of_le (by omega)] at heq
    refine RET fun h' HL => ?_
    try dsimp only [oneA]
    exact ⟨by rw [heq]; rfl, HL.le⟩

theorem lit1 {v : AV} (h : v.cells = [v]) (hs : v.cells.all AV.sc = true) : litA 1 0 [(0, v)] = some [v] := by
  unfold litA
  rw [if_pos ⟨rfl, by rw [h]; rfl, hs⟩]
  simp [litA, h]

theorem l1Own_ac (l : List Int) (v : AV) (h : AH) (hR : Rd h v l) (hl : l.length ≤ 1048576) :
    AC Try.prog 82 [v] h (fun r h' => Own h 1 enI h' r l) := by
  refine e82 _ fun wf => ?_
  unfold c82
  refine LI_start wf ?_
  refine W ?_
  refine LS_lt ([] : List Int) rfl rfl (by decide) rfl rfl rfl rfl enI1 rfl rfl fun w1 h1 s1 => ?_
  try (dsimp only [st, setL, AV.cells, List.set_cons_zero, List.set_cons_succ, List.drop_zero, List.drop_succ_cons, List.take_zero, List.take_succ_cons, Nat.zero_add, Nat.add_zero, Nat.reduceAdd, List.cons_append, List.nil_append, List.eraseIdx_cons_zero, List.eraseIdx_cons_succ])
  refine W ?_
  refine LS_ap0 0 rfl (fun h' HL => hR.le HL.le) enI1 (by decide) (by simp; omega) (by simp; omega) rfl rfl rfl fun w2 hw2 sw2 => ?_
  try (dsimp only [st, setL, AV.cells, List.set_cons_zero, List.set_cons_succ, List.drop_zero, List.drop_succ_cons, List.take_zero, List.take_succ_cons, Nat.zero_add, Nat.add_zero, Nat.reduceAdd, List.cons_append, List.nil_append, List.eraseIdx_cons_zero, List.eraseIdx_cons_succ])
  refine W ?_
  refine RET fun h' HL => ?_
  try dsimp only [oneA]
  exact HL.ownI 0 rfl enI1 (by decide)

/-! ### Plans one behind the other -/
theorem LX_rot {P : Program} {F : FK} {h0 : AH} {L0 L : List It} {l : Tr (IOp × Kd)} {Q : Exit → List AV → List It → Prop} {a : List AV} (k : Nat) {x : It} (hx : L[k]? = some x) (H : LX P F h0 L0 (x :: L.eraseIdx k) l Q a) : LX P F h0 L0 L l Q a :=
  fun hs h H0 HL => H hs h H0 (HL.perm (perm_erase L k x hx))

/-! ### Orders of the steps -/
def rd1 (p : PlanM) (D : List Int) (x : Int) : Bool := decide (x < p.n) || hasL D (x - p.n)

def rdO (p : PlanM) (D : List Int) (i : Int) (s : Int × Int) : Bool := !hasL D i && (rd1 p D s.1 && rd1 p D s.2)

def sumO (f : Int → Nat) (g : Int → Int × Int → Bool) : Int → List (Int × Int) → Nat
  | _, [] => 0
  | i, s :: l => (if g i s = true then f i else 0) + sumO f g (i + 1) l

def cntO (p : PlanM) : Nat → List Int → Nat
  | 0, _ => 1
  | k + 1, D => sumO (fun i => cntO p k (D ++ [i])) (rdO p D) 0 p.steps

theorem sumO_le {f : Int → Nat} {g : Int → Int × Int → Bool} {B : Nat} (h : ∀ i, f i ≤ B) : ∀ (l : List (Int × Int)) (i : Int), sumO f g i l ≤ l.length * B
  | [], i => by simp [sumO]
  | s :: l, i => by
    have h1 := sumO_le (g := g) h l (i + 1)
    have h2 := h i
    simp only [sumO, List.length_cons, Nat.succ_mul]
    split <;> omega

theorem cntO_le {p : PlanM} (hp : p.steps.length ≤ 8) : ∀ (k : Nat) (D : List Int), cntO p k D ≤ 8 ^ k
  | 0, D => by simp [cntO]
  | k + 1, D => by
    have h1 := sumO_le (g := rdO p D) (B := 8 ^ k) (fun i => cntO_le hp k (D ++ [i])) p.steps 0
    have h2 : p.steps.length * 8 ^ k ≤ 8 * 8 ^ k := Nat.mul_le_mul_right _ hp
    rw [cntO, Nat.pow_succ]
    omega

theorem cntO_bd {p : PlanM} (hp : p.steps.length ≤ 8) {k : Nat} (hk : k ≤ 8) (D : List Int) : cntO p k D ≤ 16777216 :=
  Nat.le_trans (cntO_le hp k D) (Nat.le_trans (Nat.pow_le_pow_right (by omega) hk) (by decide))

theorem plan_bd {p : PlanM} (hk : planOk p = true) : ∀ s ∈ p.steps, 0 ≤ s.1 ∧ s.1 ≤ 4096 ∧ 0 ≤ s.2 ∧ s.2 ≤ 4096 := by
  obtain ⟨h1, h2, h3, h4, hf, h6⟩ := planOk_out hk
  intro s hs
  obtain ⟨i, hi⟩ := List.mem_iff_getElem?.1 hs
  have := formedS_get hf hi
  have := (List.getElem?_eq_some_iff.1 hi).1
  omega
end Go.Proofs.Ytdeeeacnmkmeiaa
