/- The walk of the law FnExactBinaryCost, part 1: what each function that it reaches computes. -/
import Derived.Test.YtdcliofmdlhmaaaCFnExactBinaryCost
namespace Go.Proofs.Ytdcliofmdlhmaaa
open Go.AL
set_option linter.unusedVariables false
set_option linter.unusedSimpArgs false
set_option maxRecDepth 100000
set_option maxHeartbeats 1000000
attribute [local irreducible] AS AI AIL OpR AC CW AWP ALoop LS LI LIL LThen LLoop LBlk LRet Lh AX OpV OpF

theorem nf {b : Bool} (h : (!b) = false) : b = true := by cases b <;> simp_all

theorem nt {b : Bool} (h : (!b) = true) : b = false := by cases b <;> simp_all

theorem in_ac (n lo hi : Int) (h : AH) : AC Try.prog 104 [.i .i64 n, .i .i64 lo, .i .i64 hi] h (fun v h' => v = .b (decide (lo ≤ n ∧ n ≤ hi)) ∧ h = h') := by
  refine e104 _ _ _ fun wf => ?_
  unfold c104
  repeat (first | refine AI_seqk fun K hK => ?_ | refine AI_reg ?_ | ((first | refine wmv rfl ?_ | refine wag rfl ?_ | refine war _ rfl rfl rfl (by omega) (by omega) ?_ | refine wbn rfl rfl rfl ?_ | refine wnt rfl ?_ | refine wex rfl rfl ?_ | refine wpt rfl (by first | assumption | with_reducible rfl) rfl ?_ | refine wpf rfl (by first | assumption | with_reducible rfl) rfl ?_ | refine wpb rfl rfl rfl ?_ | refine wmf rfl ?_ | refine wnc rfl ?_ | refine wbq Try.underlying4 rfl rfl _ (.inr ⟨rfl, rfl⟩) ?_ | refine wbq Try.underlying4 rfl rfl _ (.inl ⟨rfl, rfl⟩) ?_); try dsimp only [st, List.set_cons_zero, List.set_cons_succ]) | ((first | refine AS_nil ?_ | refine AI_skip ?_ | refine AI_exit ?_); try simp only [AThen, ABlk, reduceIte, reduceCtorEq]) | ((first | refine hK _ _ ?_ | ((first | clear hK K | clear IH hK K); refine hK _ _ ?_) | ((first | clear hK K | clear IH hK K); (first | clear hK K | clear IH hK K); refine hK _ _ ?_) | ((first | clear hK K | clear IH hK K); (first | clear hK K | clear IH hK K); (first | clear hK K | clear IH hK K); refine hK _ _ ?_)); try (first | clear hK K | clear IH hK K)) | refine AI_cond_t rfl (by first | assumption | with_reducible rfl) ?_ | refine AI_cond_f rfl (by first | assumption | with_reducible rfl) ?_ | refine AS_gy rfl (by first | assumption | with_reducible rfl) ?_ | refine AS_gtn rfl (by first | assumption | with_reducible rfl) ?_ | refine AS_gfn rfl (by first | assumption | with_reducible rfl) ?_ | refine AI_block (AI_loop ?_) | refine AI_block ?_ | refine AI_ret ⟨_, rfl, ?_⟩)
  (first | refine AS_gt rfl ?_ ?_ | refine AS_gf rfl ?_ ?_ | refine AI_cond rfl ?_ ?_) <;> intro hc <;> have hc' := hc <;> try simp only [decide_eq_true_eq, decide_eq_false_iff_not, Bool.not_eq_true', Bool.not_eq_false', Bool.not_eq_true, Bool.not_eq_false, beq_iff_eq, bne_iff_ne, beq_eq_false_iff_ne, bne_eq_false_iff_eq, Int.not_lt, Int.not_le, ge_iff_le, gt_iff_lt, not_and, ne_eq, Decidable.not_not] at hc'
  all_goals
    repeat (first | refine AI_seqk fun K hK => ?_ | refine AI_reg ?_ | ((first | refine wmv rfl ?_ | refine wag rfl ?_ | refine war _ rfl rfl rfl (by omega) (by omega) ?_ | refine wbn rfl rfl rfl ?_ | refine wnt rfl ?_ | refine wex rfl rfl ?_ | refine wpt rfl (by first | assumption | with_reducible rfl) rfl ?_ | refine wpf rfl (by first | assumption | with_reducible rfl) rfl ?_ | refine wpb rfl rfl rfl ?_ | refine wmf rfl ?_ | refine wnc rfl ?_ | refine wbq Try.underlying4 rfl rfl _ (.inr ⟨rfl, rfl⟩) ?_ | refine wbq Try.underlying4 rfl rfl _ (.inl ⟨rfl, rfl⟩) ?_); try dsimp only [st, List.set_cons_zero, List.set_cons_succ]) | ((first | refine AS_nil ?_ | refine AI_skip ?_ | refine AI_exit ?_); try simp only [AThen, ABlk, reduceIte, reduceCtorEq]) | ((first | refine hK _ _ ?_ | ((first | clear hK K | clear IH hK K); refine hK _ _ ?_) | ((first | clear hK K | clear IH hK K); (first | clear hK K | clear IH hK K); refine hK _ _ ?_) | ((first | clear hK K | clear IH hK K); (first | clear hK K | clear IH hK K); (first | clear hK K | clear IH hK K); refine hK _ _ ?_)); try (first | clear hK K | clear IH hK K)) | refine AI_cond_t rfl (by first | assumption | with_reducible rfl) ?_ | refine AI_cond_f rfl (by first | assumption | with_reducible rfl) ?_ | refine AS_gy rfl (by first | assumption | with_reducible rfl) ?_ | refine AS_gtn rfl (by first | assumption | with_reducible rfl) ?_ | refine AS_gfn rfl (by first | assumption | with_reducible rfl) ?_ | refine AI_block (AI_loop ?_) | refine AI_block ?_ | refine AI_ret ⟨_, rfl, ?_⟩)
  · exact ⟨by simp [hc', oneA], rfl⟩
  · exact ⟨by first | (simp [oneA, hc']; done) | (simp [oneA, hc']; omega), rfl⟩

theorem l1In_ac (n lo hi : Int) (h : AH) : AC Try.prog 100 [.i .i64 n, .i .i64 lo, .i .i64 hi] h (fun v h' => v = .b (decide (lo ≤ n ∧ n ≤ hi)) ∧ h = h') := by
  refine e100 _ _ _ fun wf => ?_
  unfold c100
  repeat (first | refine AI_seqk fun K hK => ?_ | refine AI_reg ?_ | ((first | refine wmv rfl ?_ | refine wag rfl ?_ | refine war _ rfl rfl rfl (by omega) (by omega) ?_ | refine wbn rfl rfl rfl ?_ | refine wnt rfl ?_ | refine wex rfl rfl ?_ | refine wpt rfl (by first | assumption | with_reducible rfl) rfl ?_ | refine wpf rfl (by first | assumption | with_reducible rfl) rfl ?_ | refine wpb rfl rfl rfl ?_ | refine wmf rfl ?_ | refine wnc rfl ?_ | refine wbq Try.underlying4 rfl rfl _ (.inr ⟨rfl, rfl⟩) ?_ | refine wbq Try.underlying4 rfl rfl _ (.inl ⟨rfl, rfl⟩) ?_); try dsimp only [st, List.set_cons_zero, List.set_cons_succ]) | ((first | refine AS_nil ?_ | refine AI_skip ?_ | refine AI_exit ?_); try simp only [AThen, ABlk, reduceIte, reduceCtorEq]) | ((first | refine hK _ _ ?_ | ((first | clear hK K | clear IH hK K); refine hK _ _ ?_) | ((first | clear hK K | clear IH hK K); (first | clear hK K | clear IH hK K); refine hK _ _ ?_) | ((first | clear hK K | clear IH hK K); (first | clear hK K | clear IH hK K); (first | clear hK K | clear IH hK K); refine hK _ _ ?_)); try (first | clear hK K | clear IH hK K)) | refine AI_cond_t rfl (by first | assumption | with_reducible rfl) ?_ | refine AI_cond_f rfl (by first | assumption | with_reducible rfl) ?_ | refine AS_gy rfl (by first | assumption | with_reducible rfl) ?_ | refine AS_gtn rfl (by first | assumption | with_reducible rfl) ?_ | refine AS_gfn rfl (by first | assumption | with_reducible rfl) ?_ | refine AI_block (AI_loop ?_) | refine AI_block ?_ | refine AI_ret ⟨_, rfl, ?_⟩)
  (first | refine AS_gt rfl ?_ ?_ | refine AS_gf rfl ?_ ?_ | refine AI_cond rfl ?_ ?_) <;> intro hc <;> have hc' := hc <;> try simp only [decide_eq_true_eq, decide_eq_false_iff_not, Bool.not_eq_true', Bool.not_eq_false', Bool.not_eq_true, Bool.not_eq_false, beq_iff_eq, bne_iff_ne, beq_eq_false_iff_ne, bne_eq_false_iff_eq, Int.not_lt, Int.not_le, ge_iff_le, gt_iff_lt, not_and, ne_eq, Decidable.not_not] at hc'
  all_goals
    repeat (first | refine AI_seqk fun K hK => ?_ | refine AI_reg ?_ | ((first | refine wmv rfl ?_ | refine wag rfl ?_ | refine war _ rfl rfl rfl (by omega) (by omega) ?_ | refine wbn rfl rfl rfl ?_ | refine wnt rfl ?_ | refine wex rfl rfl ?_ | refine wpt rfl (by first | assumption | with_reducible rfl) rfl ?_ | refine wpf rfl (by first | assumption | with_reducible rfl) rfl ?_ | refine wpb rfl rfl rfl ?_ | refine wmf rfl ?_ | refine wnc rfl ?_ | refine wbq Try.underlying4 rfl rfl _ (.inr ⟨rfl, rfl⟩) ?_ | refine wbq Try.underlying4 rfl rfl _ (.inl ⟨rfl, rfl⟩) ?_); try dsimp only [st, List.set_cons_zero, List.set_cons_succ]) | ((first | refine AS_nil ?_ | refine AI_skip ?_ | refine AI_exit ?_); try simp only [AThen, ABlk, reduceIte, reduceCtorEq]) | ((first | refine hK _ _ ?_ | ((first | clear hK K | clear IH hK K); refine hK _ _ ?_) | ((first | clear hK K | clear IH hK K); (first | clear hK K | clear IH hK K); refine hK _ _ ?_) | ((first | clear hK K | clear IH hK K); (first | clear hK K | clear IH hK K); (first | clear hK K | clear IH hK K); refine hK _ _ ?_)); try (first | clear hK K | clear IH hK K)) | refine AI_cond_t rfl (by first | assumption | with_reducible rfl) ?_ | refine AI_cond_f rfl (by first | assumption | with_reducible rfl) ?_ | refine AS_gy rfl (by first | assumption | with_reducible rfl) ?_ | refine AS_gtn rfl (by first | assumption | with_reducible rfl) ?_ | refine AS_gfn rfl (by first | assumption | with_reducible rfl) ?_ | refine AI_block (AI_loop ?_) | refine AI_block ?_ | refine AI_ret ⟨_, rfl, ?_⟩)
  · exact ⟨by simp [hc', oneA], rfl⟩
  · exact ⟨by first | (simp [oneA, hc']; done) | (simp [oneA, hc']; omega), rfl⟩

/-- A predicate handed over: what it answers, in whatever heap that has grown. -/
def Pred {α : Type} (P : Program) (g : FuncId) (caps : List AV) (enc : α → AV) (h : AH) (p : α → Bool) (l : List α) : Prop :=
  ∀ x ∈ l, ∀ h', h.le h' → AC P g (enc x :: caps) h' (fun v h'' => v = .b (p x) ∧ h'.le h'')

/-- The first place from i on. -/
def idxFrom {α : Type} (p : α → Bool) : List α → Int → Int
  | [], _ => -1
  | x :: l, i => if p x then i else idxFrom p l (i + 1)

theorem idxFrom_any {α : Type} (p : α → Bool) : ∀ (l : List α) (i : Int), 0 ≤ i → (decide (0 ≤ idxFrom p l i)) = l.any p
  | [], i, _ => by simp [idxFrom]
  | x :: l, i, h => by
    cases hp : p x <;> simp [idxFrom, hp, h]
    rw [← idxFrom_any p l (i + 1) (by omega)]

theorem drop_at {α : Type} {l : List α} {i : Int} (h0 : 0 ≤ i) (h1 : i < l.length) : ∃ y, l[i.toNat]? = some y ∧ y ∈ l ∧ l.drop i.toNat = y :: l.drop (i.toNat + 1) := by
  have hlt : i.toNat < l.length := by omega
  exact ⟨l[i.toNat], List.getElem?_eq_getElem hlt, List.getElem_mem hlt, List.drop_eq_getElem_cons hlt⟩

theorem toNat_succ {i : Int} (h0 : 0 ≤ i) : (i + 1).toNat = i.toNat + 1 := by omega

theorem IndexFunc_int_ac (l : List Int) (v : AV) (g : FuncId) (caps : List AV) (p : Int → Bool) (h : AH) (hR : RdG 1 enI h v l) (hl : l.length ≤ 4611686018427387904)
    (hp : Pred Try.prog g caps (.i .i64) h p l) :
    AC Try.prog 143 [v, .f g caps] h (fun r h' => r = .i .i64 (idxFrom p l 0) ∧ h.le h') := by
  refine e143 _ _ fun wf => ?_
  unfold c143
  repeat (first | refine AI_seqk fun K hK => ?_ | refine AI_reg ?_ | ((first | refine wmv rfl ?_ | refine wag rfl ?_ | refine war _ rfl rfl rfl (by omega) (by omega) ?_ | refine wbn rfl rfl rfl ?_ | refine wnt rfl ?_ | refine wex rfl rfl ?_ | refine wpt rfl (by first | assumption | with_reducible rfl) rfl ?_ | refine wpf rfl (by first | assumption | with_reducible rfl) rfl ?_ | refine wpb rfl rfl rfl ?_ | refine wmf rfl ?_ | refine wnc rfl ?_ | refine wbq Try.underlying4 rfl rfl _ (.inr ⟨rfl, rfl⟩) ?_ | refine wbq Try.underlying4 rfl rfl _ (.inl ⟨rfl, rfl⟩) ?_); try dsimp only [st, List.set_cons_zero, List.set_cons_succ]) | ((first | refine AS_nil ?_ | refine AI_skip ?_ | refine AI_exit ?_); try simp only [AThen, ABlk, reduceIte, reduceCtorEq]) | ((first | refine hK _ _ ?_ | ((first | clear hK K | clear IH hK K); refine hK _ _ ?_) | ((first | clear hK K | clear IH hK K); (first | clear hK K | clear IH hK K); refine hK _ _ ?_) | ((first | clear hK K | clear IH hK K); (first | clear hK K | clear IH hK K); (first | clear hK K | clear IH hK K); refine hK _ _ ?_)); try (first | clear hK K | clear IH hK K)) | refine AI_cond_t rfl (by first | assumption | with_reducible rfl) ?_ | refine AI_cond_f rfl (by first | assumption | with_reducible rfl) ?_ | refine AS_gy rfl (by first | assumption | with_reducible rfl) ?_ | refine AS_gtn rfl (by first | assumption | with_reducible rfl) ?_ | refine AS_gfn rfl (by first | assumption | with_reducible rfl) ?_ | refine AI_block (AI_loop ?_) | refine AI_block ?_ | refine AI_ret ⟨_, rfl, ?_⟩)
  refine AS_op (OpR_lenA Try.underlying29 rfl hR.len ?_)
  try (dsimp only [st, setL, AV.cells, List.set_cons_zero, List.set_cons_succ, List.drop_zero, List.drop_succ_cons, List.take_zero, List.take_succ_cons, Nat.zero_add, Nat.add_zero, Nat.reduceAdd, List.cons_append, List.nil_append, List.eraseIdx_cons_zero, List.eraseIdx_cons_succ])
  repeat (first | refine AI_seqk fun K hK => ?_ | refine AI_reg ?_ | ((first | refine wmv rfl ?_ | refine wag rfl ?_ | refine war _ rfl rfl rfl (by omega) (by omega) ?_ | refine wbn rfl rfl rfl ?_ | refine wnt rfl ?_ | refine wex rfl rfl ?_ | refine wpt rfl (by first | assumption | with_reducible rfl) rfl ?_ | refine wpf rfl (by first | assumption | with_reducible rfl) rfl ?_ | refine wpb rfl rfl rfl ?_ | refine wmf rfl ?_ | refine wnc rfl ?_ | refine wbq Try.underlying4 rfl rfl _ (.inr ⟨rfl, rfl⟩) ?_ | refine wbq Try.underlying4 rfl rfl _ (.inl ⟨rfl, rfl⟩) ?_); try dsimp only [st, List.set_cons_zero, List.set_cons_succ]) | ((first | refine AS_nil ?_ | refine AI_skip ?_ | refine AI_exit ?_); try simp only [AThen, ABlk, reduceIte, reduceCtorEq]) | ((first | refine hK _ _ ?_ | ((first | clear hK K | clear IH hK K); refine hK _ _ ?_) | ((first | clear hK K | clear IH hK K); (first | clear hK K | clear IH hK K); refine hK _ _ ?_) | ((first | clear hK K | clear IH hK K); (first | clear hK K | clear IH hK K); (first | clear hK K | clear IH hK K); refine hK _ _ ?_)); try (first | clear hK K | clear IH hK K)) | refine AI_cond_t rfl (by first | assumption | with_reducible rfl) ?_ | refine AI_cond_f rfl (by first | assumption | with_reducible rfl) ?_ | refine AS_gy rfl (by first | assumption | with_reducible rfl) ?_ | refine AS_gtn rfl (by first | assumption | with_reducible rfl) ?_ | refine AS_gfn rfl (by first | assumption | with_reducible rfl) ?_ | refine AI_block (AI_loop ?_) | refine AI_block ?_ | refine AI_ret ⟨_, rfl, ?_⟩)
  refine AIL_ind (fun (n : Nat) a h' => ∃ (i : Int) (x5 : AV), (∃ r : Nat → AV, a = [v, .f g caps, un, un, .i .i64 0, x5, v, .i .i64 l.length, .i .i64 i, r 9, r 10, r 11, r 12, r 13, r 14, r 15, r 16, r 17, r 18]) ∧ 0 ≤ i ∧ i + n = l.length ∧ h.le h' ∧ idxFrom p l 0 = idxFrom p (l.drop i.toNat) i)
    ?_ l.length _ _ ⟨0, _, exJ rfl, by omega, by omega, .refl _, rfl⟩
  rintro n a h' ⟨i, x5, ⟨r, rfl⟩, h0, hn, hle, hidx⟩ IH
  repeat (first | refine AI_seqk fun K hK => ?_ | refine AI_reg ?_ | ((first | refine wmv rfl ?_ | refine wag rfl ?_ | refine war _ rfl rfl rfl (by omega) (by omega) ?_ | refine wbn rfl rfl rfl ?_ | refine wnt rfl ?_ | refine wex rfl rfl ?_ | refine wpt rfl (by first | assumption | with_reducible rfl) rfl ?_ | refine wpf rfl (by first | assumption | with_reducible rfl) rfl ?_ | refine wpb rfl rfl rfl ?_ | refine wmf rfl ?_ | refine wnc rfl ?_ | refine wbq Try.underlying4 rfl rfl _ (.inr ⟨rfl, rfl⟩) ?_ | refine wbq Try.underlying4 rfl rfl _ (.inl ⟨rfl, rfl⟩) ?_); try dsimp only [st, List.set_cons_zero, List.set_cons_succ]) | ((first | refine AS_nil ?_ | refine AI_skip ?_ | refine AI_exit ?_); try simp only [AThen, ABlk, reduceIte, reduceCtorEq]) | ((first | refine hK _ _ ?_ | ((first | clear hK K | clear IH hK K); refine hK _ _ ?_) | ((first | clear hK K | clear IH hK K); (first | clear hK K | clear IH hK K); refine hK _ _ ?_) | ((first | clear hK K | clear IH hK K); (first | clear hK K | clear IH hK K); (first | clear hK K | clear IH hK K); refine hK _ _ ?_)); try (first | clear hK K | clear IH hK K)) | refine AI_cond_t rfl (by first | assumption | with_reducible rfl) ?_ | refine AI_cond_f rfl (by first | assumption | with_reducible rfl) ?_ | refine AS_gy rfl (by first | assumption | with_reducible rfl) ?_ | refine AS_gtn rfl (by first | assumption | with_reducible rfl) ?_ | refine AS_gfn rfl (by first | assumption | with_reducible rfl) ?_ | refine AI_block (AI_loop ?_) | refine AI_block ?_ | refine AI_ret ⟨_, rfl, ?_⟩)
  (first | refine AS_gt rfl ?_ ?_ | refine AS_gf rfl ?_ ?_ | refine AI_cond rfl ?_ ?_) <;> intro hc <;> have hc' := hc <;> try simp only [decide_eq_true_eq, decide_eq_false_iff_not, Bool.not_eq_true', Bool.not_eq_false', Bool.not_eq_true, Bool.not_eq_false, beq_iff_eq, bne_iff_ne, beq_eq_false_iff_ne, bne_eq_false_iff_eq, Int.not_lt, Int.not_le, ge_iff_le, gt_iff_lt, not_and, ne_eq, Decidable.not_not] at hc'
  all_goals
    repeat (first | refine AI_seqk fun K hK => ?_ | refine AI_reg ?_ | ((first | refine wmv rfl ?_ | refine wag rfl ?_ | refine war _ rfl rfl rfl (by omega) (by omega) ?_ | refine wbn rfl rfl rfl ?_ | refine wnt rfl ?_ | refine wex rfl rfl ?_ | refine wpt rfl (by first | assumption | with_reducible rfl) rfl ?_ | refine wpf rfl (by first | assumption | with_reducible rfl) rfl ?_ | refine wpb rfl rfl rfl ?_ | refine wmf rfl ?_ | refine wnc rfl ?_ | refine wbq Try.underlying4 rfl rfl _ (.inr ⟨rfl, rfl⟩) ?_ | refine wbq Try.underlying4 rfl rfl _ (.inl ⟨rfl, rfl⟩) ?_); try dsimp only [st, List.set_cons_zero, List.set_cons_succ]) | ((first | refine AS_nil ?_ | refine AI_skip ?_ | refine AI_exit ?_); try simp only [AThen, ABlk, reduceIte, reduceCtorEq]) | ((first | refine hK _ _ ?_ | ((first | clear hK K | clear IH hK K); refine hK _ _ ?_) | ((first | clear hK K | clear IH hK K); (first | clear hK K | clear IH hK K); refine hK _ _ ?_) | ((first | clear hK K | clear IH hK K); (first | clear hK K | clear IH hK K); (first | clear hK K | clear IH hK K); refine hK _ _ ?_)); try (first | clear hK K | clear IH hK K)) | refine AI_cond_t rfl (by first | assumption | with_reducible rfl) ?_ | refine AI_cond_f rfl (by first | assumption | with_reducible rfl) ?_ | refine AS_gy rfl (by first | assumption | with_reducible rfl) ?_ | refine AS_gtn rfl (by first | assumption | with_reducible rfl) ?_ | refine AS_gfn rfl (by first | assumption | with_reducible rfl) ?_ | refine AI_block (AI_loop ?_) | refine AI_block ?_ | refine AI_ret ⟨_, rfl, ?_⟩)
  · obtain ⟨y, hy, hmem, hdrop⟩ := drop_at h0 hc'
    rw [hdrop] at hidx
    refine AS_op (OpR_idx Try.underlying29 sz3 rfl rfl (hR.le hle) (fun _ => rfl) h0 hy fun b o hrow => ?_)
    try (dsimp only [st, setL, AV.cells, List.set_cons_zero, List.set_cons_succ, List.drop_zero, List.drop_succ_cons, List.take_zero, List.take_succ_cons, Nat.zero_add, Nat.add_zero, Nat.reduceAdd, List.cons_append, List.nil_append, List.eraseIdx_cons_zero, List.eraseIdx_cons_succ])
    repeat (first | refine AI_seqk fun K hK => ?_ | refine AI_reg ?_ | ((first | refine wmv rfl ?_ | refine wag rfl ?_ | refine war _ rfl rfl rfl (by omega) (by omega) ?_ | refine wbn rfl rfl rfl ?_ | refine wnt rfl ?_ | refine wex rfl rfl ?_ | refine wpt rfl (by first | assumption | with_reducible rfl) rfl ?_ | refine wpf rfl (by first | assumption | with_reducible rfl) rfl ?_ | refine wpb rfl rfl rfl ?_ | refine wmf rfl ?_ | refine wnc rfl ?_ | refine wbq Try.underlying4 rfl rfl _ (.inr ⟨rfl, rfl⟩) ?_ | refine wbq Try.underlying4 rfl rfl _ (.inl ⟨rfl, rfl⟩) ?_); try dsimp only [st, List.set_cons_zero, List.set_cons_succ]) | ((first | refine AS_nil ?_ | refine AI_skip ?_ | refine AI_exit ?_); try simp only [AThen, ABlk, reduceIte, reduceCtorEq]) | ((first | refine hK _ _ ?_ | ((first | clear hK K | clear IH hK K); refine hK _ _ ?_) | ((first | clear hK K | clear IH hK K); (first | clear hK K | clear IH hK K); refine hK _ _ ?_) | ((first | clear hK K | clear IH hK K); (first | clear hK K | clear IH hK K); (first | clear hK K | clear IH hK K); refine hK _ _ ?_)); try (first | clear hK K | clear IH hK K)) | refine AI_cond_t rfl (by first | assumption | with_reducible rfl) ?_ | refine AI_cond_f rfl (by first | assumption | with_reducible rfl) ?_ | refine AS_gy rfl (by first | assumption | with_reducible rfl) ?_ | refine AS_gtn rfl (by first | assumption | with_reducible rfl) ?_ | refine AS_gfn rfl (by first | assumption | with_reducible rfl) ?_ | refine AI_block (AI_loop ?_) | refine AI_block ?_ | refine AI_ret ⟨_, rfl, ?_⟩)
    refine AS_op (OpR_load rfl (loadA_1 ag3 (cell_row hrow)) ?_)
    try (dsimp only [st, setL, AV.cells, List.set_cons_zero, List.set_cons_succ, List.drop_zero, List.drop_succ_cons, List.take_zero, List.take_succ_cons, Nat.zero_add, Nat.add_zero, Nat.reduceAdd, List.cons_append, List.nil_append, List.eraseIdx_cons_zero, List.eraseIdx_cons_succ])
    repeat (first | refine AI_seqk fun K hK => ?_ | refine AI_reg ?_ | ((first | refine wmv rfl ?_ | refine wag rfl ?_ | refine war _ rfl rfl rfl (by omega) (by omega) ?_ | refine wbn rfl rfl rfl ?_ | refine wnt rfl ?_ | refine wex rfl rfl ?_ | refine wpt rfl (by first | assumption | with_reducible rfl) rfl ?_ | refine wpf rfl (by first | assumption | with_reducible rfl) rfl ?_ | refine wpb rfl rfl rfl ?_ | refine wmf rfl ?_ | refine wnc rfl ?_ | refine wbq Try.underlying4 rfl rfl _ (.inr ⟨rfl, rfl⟩) ?_ | refine wbq Try.underlying4 rfl rfl _ (.inl ⟨rfl, rfl⟩) ?_); try dsimp only [st, List.set_cons_zero, List.set_cons_succ]) | ((first | refine AS_nil ?_ | refine AI_skip ?_ | refine AI_exit ?_); try simp only [AThen, ABlk, reduceIte, reduceCtorEq]) | ((first | refine hK _ _ ?_ | ((first | clear hK K | clear IH hK K); refine hK _ _ ?_) | ((first | clear hK K | clear IH hK K); (first | clear hK K | clear IH hK K); refine hK _ _ ?_) | ((first | clear hK K | clear IH hK K); (first | clear hK K | clear IH hK K); (first | clear hK K | clear IH hK K); refine hK _ _ ?_)); try (first | clear hK K | clear IH hK K)) | refine AI_cond_t rfl (by first | assumption | with_reducible rfl) ?_ | refine AI_cond_f rfl (by first | assumption | with_reducible rfl) ?_ | refine AS_gy rfl (by first | assumption | with_reducible rfl) ?_ | refine AS_gtn rfl (by first | assumption | with_reducible rfl) ?_ | refine AS_gfn rfl (by first | assumption | with_reducible rfl) ?_ | refine AI_block (AI_loop ?_) | refine AI_block ?_ | refine AI_ret ⟨_, rfl, ?_⟩)
    refine AS_op (OpR_call rfl rfl (hp y hmem _ hle) ?_)
    rintro _ h2 wf1 ⟨rfl, hle2⟩
    try (dsimp only [st, setL, AV.cells, List.set_cons_zero, List.set_cons_succ, List.drop_zero, List.drop_succ_cons, List.take_zero, List.take_succ_cons, Nat.zero_add, Nat.add_zero, Nat.reduceAdd, List.cons_append, List.nil_append, List.eraseIdx_cons_zero, List.eraseIdx_cons_succ])
    repeat (first | refine AI_seqk fun K hK => ?_ | refine AI_reg ?_ | ((first | refine wmv rfl ?_ | refine wag rfl ?_ | refine war _ rfl rfl rfl (by omega) (by omega) ?_ | refine wbn rfl rfl rfl ?_ | refine wnt rfl ?_ | refine wex rfl rfl ?_ | refine wpt rfl (by first | assumption | with_reducible rfl) rfl ?_ | refine wpf rfl (by first | assumption | with_reducible rfl) rfl ?_ | refine wpb rfl rfl rfl ?_ | refine wmf rfl ?_ | refine wnc rfl ?_ | refine wbq Try.underlying4 rfl rfl _ (.inr ⟨rfl, rfl⟩) ?_ | refine wbq Try.underlying4 rfl rfl _ (.inl ⟨rfl, rfl⟩) ?_); try dsimp only [st, List.set_cons_zero, List.set_cons_succ]) | ((first | refine AS_nil ?_ | refine AI_skip ?_ | refine AI_exit ?_); try simp only [AThen, ABlk, reduceIte, reduceCtorEq]) | ((first | refine hK _ _ ?_ | ((first | clear hK K | clear IH hK K); refine hK _ _ ?_) | ((first | clear hK K | clear IH hK K); (first | clear hK K | clear IH hK K); refine hK _ _ ?_) | ((first | clear hK K | clear IH hK K); (first | clear hK K | clear IH hK K); (first | clear hK K | clear IH hK K); refine hK _ _ ?_)); try (first | clear hK K | clear IH hK K)) | refine AI_cond_t rfl (by first | assumption | with_reducible rfl) ?_ | refine AI_cond_f rfl (by first | assumption | with_reducible rfl) ?_ | refine AS_gy rfl (by first | assumption | with_reducible rfl) ?_ | refine AS_gtn rfl (by first | assumption | with_reducible rfl) ?_ | refine AS_gfn rfl (by first | assumption | with_reducible rfl) ?_ | refine AI_block (AI_loop ?_) | refine AI_block ?_ | refine AI_ret ⟨_, rfl, ?_⟩)
    (first | refine AS_gt rfl ?_ ?_ | refine AS_gf rfl ?_ ?_ | refine AI_cond rfl ?_ ?_) <;> intro hc <;> have hc' := hc <;> try simp only [decide_eq_true_eq, decide_eq_false_iff_not, Bool.not_eq_true', Bool.not_eq_false', Bool.not_eq_true, Bool.not_eq_false, beq_iff_eq, bne_iff_ne, beq_eq_false_iff_ne, bne_eq_false_iff_eq, Int.not_lt, Int.not_le, ge_iff_le, gt_iff_lt, not_and, ne_eq, Decidable.not_not] at hc'
    all_goals
      repeat (first | refine AI_seqk fun K hK => ?_ | refine AI_reg ?_ | ((first | refine wmv rfl ?_ | refine wag rfl ?_ | refine war _ rfl rfl rfl (by omega) (by omega) ?_ | refine wbn rfl rfl rfl ?_ | refine wnt rfl ?_ | refine wex rfl rfl ?_ | refine wpt rfl (by first | assumption | with_reducible rfl) rfl ?_ | refine wpf rfl (by first | assumption | with_reducible rfl) rfl ?_ | refine wpb rfl rfl rfl ?_ | refine wmf rfl ?_ | refine wnc rfl ?_ | refine wbq Try.underlying4 rfl rfl _ (.inr ⟨rfl, rfl⟩) ?_ | refine wbq Try.underlying4 rfl rfl _ (.inl ⟨rfl, rfl⟩) ?_); try dsimp only [st, List.set_cons_zero, List.set_cons_succ]) | ((first | refine AS_nil ?_ | refine AI_skip ?_ | refine AI_exit ?_); try simp only [AThen, ABlk, reduceIte, reduceCtorEq]) | ((first | refine hK _ _ ?_ | ((first | clear hK K | clear IH hK K); refine hK _ _ ?_) | ((first | clear hK K | clear IH hK K); (first | clear hK K | clear IH hK K); refine hK _ _ ?_) | ((first | clear hK K | clear IH hK K); (first | clear hK K | clear IH hK K); (first | clear hK K | clear IH hK K); refine hK _ _ ?_)); try (first | clear hK K | clear IH hK K)) | refine AI_cond_t rfl (by first | assumption | with_reducible rfl) ?_ | refine AI_cond_f rfl (by first | assumption | with_reducible rfl) ?_ | refine AS_gy rfl (by first | assumption | with_reducible rfl) ?_ | refine AS_gtn rfl (by first | assumption | with_reducible rfl) ?_ | refine AS_gfn rfl (by first | assumption | with_reducible rfl) ?_ | refine AI_block (AI_loop ?_) | refine AI_block ?_ | refine AI_ret ⟨_, rfl, ?_⟩)
    · refine ⟨?_, hle.trans hle2⟩
      rw [hidx]
      simp [idxFrom, hc, oneA]
    · refine IH (n - 1) _ _ (by omega) ⟨i + 1, _, exJ rfl, by omega, by omega, hle.trans hle2, ?_⟩
      rw [hidx, toNat_succ h0]
      simp [idxFrom, hc]
  · refine ⟨?_, hle⟩
    rw [hidx, List.drop_eq_nil_of_le (by omega)]
    rfl

theorem ContainsFunc_int_ac (l : List Int) (v : AV) (g : FuncId) (caps : List AV) (p : Int → Bool) (h : AH) (hR : RdG 1 enI h v l) (hl : l.length ≤ 4611686018427387904)
    (hp : Pred Try.prog g caps (.i .i64) h p l) :
    AC Try.prog 105 [v, .f g caps] h (fun r h' => r = .b (l.any p) ∧ h.le h') := by
  refine e105 _ _ fun wf => ?_
  unfold c105
  repeat (first | refine AI_seqk fun K hK => ?_ | refine AI_reg ?_ | ((first | refine wmv rfl ?_ | refine wag rfl ?_ | refine war _ rfl rfl rfl (by omega) (by omega) ?_ | refine wbn rfl rfl rfl ?_ | refine wnt rfl ?_ | refine wex rfl rfl ?_ | refine wpt rfl (by first | assumption | with_reducible rfl) rfl ?_ | refine wpf rfl (by first | assumption | with_reducible rfl) rfl ?_ | refine wpb rfl rfl rfl ?_ | refine wmf rfl ?_ | refine wnc rfl ?_ | refine wbq Try.underlying4 rfl rfl _ (.inr ⟨rfl, rfl⟩) ?_ | refine wbq Try.underlying4 rfl rfl _ (.inl ⟨rfl, rfl⟩) ?_); try dsimp only [st, List.set_cons_zero, List.set_cons_succ]) | ((first | refine AS_nil ?_ | refine AI_skip ?_ | refine AI_exit ?_); try simp only [AThen, ABlk, reduceIte, reduceCtorEq]) | ((first | refine hK _ _ ?_ | ((first | clear hK K | clear IH hK K); refine hK _ _ ?_) | ((first | clear hK K | clear IH hK K); (first | clear hK K | clear IH hK K); refine hK _ _ ?_) | ((first | clear hK K | clear IH hK K); (first | clear hK K | clear IH hK K); (first | clear hK K | clear IH hK K); refine hK _ _ ?_)); try (first | clear hK K | clear IH hK K)) | refine AI_cond_t rfl (by first | assumption | with_reducible rfl) ?_ | refine AI_cond_f rfl (by first | assumption | with_reducible rfl) ?_ | refine AS_gy rfl (by first | assumption | with_reducible rfl) ?_ | refine AS_gtn rfl (by first | assumption | with_reducible rfl) ?_ | refine AS_gfn rfl (by first | assumption | with_reducible rfl) ?_ | refine AI_block (AI_loop ?_) | refine AI_block ?_ | refine AI_ret ⟨_, rfl, ?_⟩)
  refine AS_op (OpR_call rfl rfl (IndexFunc_int_ac l v g caps p _ hR hl hp) ?_)
  rintro _ h2 wf1 ⟨rfl, hle2⟩
  try (dsimp only [st, setL, AV.cells, List.set_cons_zero, List.set_cons_succ, List.drop_zero, List.drop_succ_cons, List.take_zero, List.take_succ_cons, Nat.zero_add, Nat.add_zero, Nat.reduceAdd, List.cons_append, List.nil_append, List.eraseIdx_cons_zero, List.eraseIdx_cons_succ])
  repeat (first | refine AI_seqk fun K hK => ?_ | refine AI_reg ?_ | ((first | refine wmv rfl ?_ | refine wag rfl ?_ | refine war _ rfl rfl rfl (by omega) (by omega) ?_ | refine wbn rfl rfl rfl ?_ | refine wnt rfl ?_ | refine wex rfl rfl ?_ | refine wpt rfl (by first | assumption | with_reducible rfl) rfl ?_ | refine wpf rfl (by first | assumption | with_reducible rfl) rfl ?_ | refine wpb rfl rfl rfl ?_ | refine wmf rfl ?_ | refine wnc rfl ?_ | refine wbq Try.underlying4 rfl rfl _ (.inr ⟨rfl, rfl⟩) ?_ | refine wbq Try.underlying4 rfl rfl _ (.inl ⟨rfl, rfl⟩) ?_); try dsimp only [st, List.set_cons_zero, List.set_cons_succ]) | ((first | refine AS_nil ?_ | refine AI_skip ?_ | refine AI_exit ?_); try simp only [AThen, ABlk, reduceIte, reduceCtorEq]) | ((first | refine hK _ _ ?_ | ((first | clear hK K | clear IH hK K); refine hK _ _ ?_) | ((first | clear hK K | clear IH hK K); (first | clear hK K | clear IH hK K); refine hK _ _ ?_) | ((first | clear hK K | clear IH hK K); (first | clear hK K | clear IH hK K); (first | clear hK K | clear IH hK K); refine hK _ _ ?_)); try (first | clear hK K | clear IH hK K)) | refine AI_cond_t rfl (by first | assumption | with_reducible rfl) ?_ | refine AI_cond_f rfl (by first | assumption | with_reducible rfl) ?_ | refine AS_gy rfl (by first | assumption | with_reducible rfl) ?_ | refine AS_gtn rfl (by first | assumption | with_reducible rfl) ?_ | refine AS_gfn rfl (by first | assumption | with_reducible rfl) ?_ | refine AI_block (AI_loop ?_) | refine AI_block ?_ | refine AI_ret ⟨_, rfl, ?_⟩)
  refine ⟨?_, hle2⟩
  simp only [oneA, ← idxFrom_any p l 0 (by omega), ge_iff_le]

theorem take_snoc {α : Type} {l : List α} {i : Nat} {y : α} (hy : l[i]? = some y) : l.take (i + 1) = l.take i ++ [y] := by rw [List.take_add_one, hy]; rfl

theorem any_not (l : List Int) (p : Int → Bool) : (l.any fun x => !p x) = !l.all p := by simp [List.not_all_eq_any_not]

/-! ### Exponents -/
def sumR (x y : List Int) : List Int := List.zipWith (fun a b => if a + b < 1000001 then a + b else 1000001) x y

theorem sumR_len {x y : List Int} (h : x.length = y.length) : (sumR x y).length = x.length := by simp [sumR, h]

theorem sumR_take {x y : List Int} {i : Nat} {a b : Int} (ha : x[i]? = some a) (hb : y[i]? = some b) : sumR (x.take (i + 1)) (y.take (i + 1)) = sumR (x.take i) (y.take i) ++ [if a + b < 1000001 then a + b else 1000001] := by
  have hx := (List.getElem?_eq_some_iff.1 ha).1
  have hy := (List.getElem?_eq_some_iff.1 hb).1
  rw [take_snoc ha, take_snoc hb]
  unfold sumR
  rw [List.zipWith_append (by simp; omega)]
  rfl

theorem l1Least_ac (a b : Int) (h : AH) : AC Try.prog 80 [.i .i64 a, .i .i64 b] h (fun r h' => r = .i .i64 (if a < b then a else b) ∧ h.le h') := by
  refine e80 _ _ fun wf => ?_
  unfold c80
  refine LI_start wf ?_
  refine W ?_
  (first | refine LS_gt rfl ?_ ?_ | refine LS_gf rfl ?_ ?_ | refine LI_cond rfl ?_ ?_) <;> intro hc <;> have hc' := hc <;> try simp only [decide_eq_true_eq, decide_eq_false_iff_not, Bool.not_eq_true', Bool.not_eq_false', Bool.not_eq_true, Bool.not_eq_false, beq_iff_eq, bne_iff_ne, beq_eq_false_iff_ne, bne_eq_false_iff_eq, Int.not_lt, Int.not_le, ge_iff_le, gt_iff_lt, not_and, ne_eq, Decidable.not_not] at hc'
  all_goals (try (dsimp only [st, setL, AV.cells, List.set_cons_zero, List.set_cons_succ, List.drop_zero, List.drop_succ_cons, List.take_zero, List.take_succ_cons, Nat.zero_add, Nat.add_zero, Nat.reduceAdd, List.cons_append, List.nil_append, List.eraseIdx_cons_zero, List.eraseIdx_cons_succ]))
  all_goals (refine W ?_)
  · refine RET fun h' HL => ?_
    try dsimp only [oneA]
    exact ⟨by rw [if_pos hc'], HL.le⟩
  · refine RET fun h' HL => ?_
    try dsimp only [oneA]
    exact ⟨by rw [if_neg (by omega)], HL.le⟩

def row01 (l : List Int) : Prop := ∀ x ∈ l, 0 ≤ x ∧ x ≤ 1000001

def unitRow (n i : Nat) : List Int := (List.replicate n 0).set i 1

def unitsE (n : Nat) : List (List Int) := (List.range n).map (unitRow n)

def stepE (ll : List (List Int)) (s : Int × Int) : List (List Int) := ll ++ [sumR (ll.getD s.1.toNat []) (ll.getD s.2.toNat [])]

def expsE (p : PlanM) : List (List Int) := p.steps.foldl stepE (unitsE p.n.toNat)

def formedS (n : Int) : Nat → List (Int × Int) → Bool
  | _, [] => true
  | i, s :: l => decide (0 ≤ s.1 ∧ s.1 ≤ s.2 ∧ s.2 < n + i) && formedS n (i + 1) l

theorem formedS_get {n : Int} : ∀ {l : List (Int × Int)} {k i : Nat} {s : Int × Int}, formedS n k l = true → l[i]? = some s → 0 ≤ s.1 ∧ s.1 ≤ s.2 ∧ s.2 < n + k + i
  | [], _, _, _, _, h => by simp at h
  | x :: l, k, 0, s, h, e => by
    simp at e; subst e
    simp only [formedS, Bool.and_eq_true, decide_eq_true_eq] at h
    omega
  | x :: l, k, i + 1, s, h, e => by
    simp only [formedS, Bool.and_eq_true] at h
    have := formedS_get h.2 (by simpa using e)
    omega

def rowsOk (n : Nat) (ll : List (List Int)) : Prop := ∀ r ∈ ll, r.length = n ∧ row01 r

theorem unitRow_ok (n i : Nat) : (unitRow n i).length = n ∧ row01 (unitRow n i) := by
  refine ⟨by simp [unitRow], fun x hx => ?_⟩
  rcases List.mem_or_eq_of_mem_set hx with hx | rfl
  · have := (List.mem_replicate.1 hx).2; omega
  · omega

theorem unitsE_ok (n k : Nat) : rowsOk n ((unitsE n).take k) := by
  intro r hr
  obtain ⟨i, _, rfl⟩ := List.mem_map.1 (List.mem_of_mem_take hr)
  exact unitRow_ok n i

theorem sumR_ok {n : Nat} {x y : List Int} (hx : x.length = n ∧ row01 x) (hy : y.length = n ∧ row01 y) : (sumR x y).length = n ∧ row01 (sumR x y) := by
  refine ⟨by rw [sumR_len (by omega)]; omega, fun z hz => ?_⟩
  unfold sumR at hz
  obtain ⟨i, hi⟩ := List.mem_iff_getElem?.1 hz
  rw [List.getElem?_zipWith] at hi
  cases hxi : x[i]? with
  | none => rw [hxi] at hi; simp at hi
  | some a =>
    cases hyi : y[i]? with
    | none => rw [hxi, hyi] at hi; simp at hi
    | some b =>
      rw [hxi, hyi] at hi
      have h1 := hx.2 a (List.mem_of_getElem? hxi)
      have h2 := hy.2 b (List.mem_of_getElem? hyi)
      simp only [Option.some.injEq] at hi
      subst hi
      split <;> omega

theorem getD_get {ll : List (List Int)} {i : Nat} (h : i < ll.length) : ll[i]? = some (ll.getD i []) := by simp [List.getD, List.getElem?_eq_getElem h]

/-- The values of the first steps. -/
def expsT (p : PlanM) (i : Nat) : List (List Int) := (p.steps.take i).foldl stepE (unitsE p.n.toNat)

theorem expsT_succ {p : PlanM} {i : Nat} {s : Int × Int} (hs : p.steps[i]? = some s) : expsT p (i + 1) = stepE (expsT p i) s := by
  unfold expsT
  rw [take_snoc hs, List.foldl_append]
  rfl

theorem expsT_ok {p : PlanM} (hf : formedS p.n 0 p.steps = true) (hn : 1 ≤ p.n) : ∀ i, i ≤ p.steps.length → (expsT p i).length = p.n.toNat + i ∧ rowsOk p.n.toNat (expsT p i)
  | 0, _ => by
    have e : expsT p 0 = (unitsE p.n.toNat).take p.n.toNat := by
      rw [List.take_of_length_le (by simp [unitsE])]
      rfl
    exact ⟨by simp [expsT, unitsE], by rw [e]; exact unitsE_ok _ _⟩
  | i + 1, hi => by
    obtain ⟨h1, h2⟩ := expsT_ok hf hn i (by omega)
    have hs : p.steps[i]? = some p.steps[i] := List.getElem?_eq_getElem (by omega)
    have hb := formedS_get hf hs
    generalize p.steps[i] = s at hs hb
    rw [expsT_succ hs]
    refine ⟨by simp [stepE, h1]; omega, fun r hr => ?_⟩
    rcases List.mem_append.1 hr with hr | hr
    · exact h2 r hr
    · rw [List.mem_singleton.1 hr]
      exact sumR_ok (h2 _ (List.mem_of_getElem? (getD_get (by omega)))) (h2 _ (List.mem_of_getElem? (getD_get (by omega))))

def ssI (v : AV) (us : List AV) (ll : List (List Int)) : List It := .sl v 1 (us.flatMap enV) :: (rowsI us ll ++ [])

theorem unit_next {n i : Nat} (h : i < n) : (unitsE n).take (i + 1) = (unitsE n).take i ++ [unitRow n i] := take_snoc (by simp [unitsE, h])

theorem set_unit (n i : Nat) : (List.replicate n (0 : Int)).set i 1 = unitRow n i := rfl

theorem at_ {α : Type} {l : List α} {i : Nat} (h : i < l.length) : ∃ x, l[i]? = some x := ⟨_, List.getElem?_eq_getElem h⟩

theorem expsT_end (p : PlanM) : expsT p p.steps.length = expsE p := by simp [expsT, expsE]

/-! ### What a plan is -/
def planForm (p : PlanM) : Bool := decide (1 ≤ p.n ∧ p.n ≤ 6) && (decide ((p.steps.length : Int) ≤ 40) && (decide ((p.outs.length : Int) ≤ 6) && formedS p.n 0 p.steps))

def smallE (p : PlanM) : Bool := (expsE p).all fun r => r.all fun x => decide (0 ≤ x ∧ x ≤ 1000000)

def outsOk (p : PlanM) : Bool := p.outs.all fun v => decide (0 ≤ v ∧ v ≤ p.n + p.steps.length - 1)

def planOk (p : PlanM) : Bool := planForm p && (smallE p && outsOk p)

theorem planForm_out {p : PlanM} (h : planForm p = true) : 1 ≤ p.n ∧ p.n ≤ 6 ∧ p.steps.length ≤ 40 ∧ p.outs.length ≤ 6 ∧ formedS p.n 0 p.steps = true := by
  simp only [planForm, Bool.and_eq_true, decide_eq_true_eq] at h
  obtain ⟨⟨h1, h2⟩, h3, h4, h5⟩ := h
  exact ⟨h1, h2, by omega, by omega, h5⟩

theorem formedS_drop {n : Int} {l : List (Int × Int)} {i : Nat} {s : Int × Int} (hd : l.drop i = s :: l.drop (i + 1)) : formedS n i (l.drop i) = (decide (0 ≤ s.1 ∧ s.1 ≤ s.2 ∧ s.2 < n + i) && formedS n (i + 1) (l.drop (i + 1))) := by rw [hd, formedS]

theorem rowsI_in {us : List AV} {ll : List (List Int)} {i : Nat} {u : AV} {l : List Int} {B : List It} (hu : us[i]? = some u) (hl : ll[i]? = some l) : It.sl u 1 (l.flatMap enI) ∈ rowsI us ll ++ B := List.mem_append_left _ (rowsI_get hu hl)

/-! ### The same of the program -/
theorem IndexFuncSS_ac (ll : List (List Int)) (us : List AV) (v : AV) (g : FuncId) (caps : List AV) (q : List Int → Bool) (h : AH) (hR : RdG 1 enV h v us) (hlen : us.length = ll.length) (hl : us.length ≤ 4611686018427387904)
    (hp : ∀ (i : Nat) (u : AV) (x : List Int), us[i]? = some u → ll[i]? = some x → ∀ h', h.le h' → AC Try.prog g (u :: caps) h' (fun r h'' => r = .b (q x) ∧ h'.le h'')) :
    AC Try.prog 157 [v, .f g caps] h (fun r h' => r = .i .i64 (idxFrom q ll 0) ∧ h.le h') := by
  refine e157 _ _ fun wf => ?_
  unfold c157
  refine LI_start wf ?_
  refine W ?_
  refine LIL_ind (fun n a L => ∃ (i : Int), (∃ r : Nat → AV, a = [v, .f g caps, r 2, r 3, r 4, r 5, v, .i .i64 us.length, .i .i64 i, r 9, r 10, r 11, r 12, r 13, r 14, r 15, r 16, r 17, r 18]) ∧ L = [] ∧ 0 ≤ i ∧ i + n = us.length ∧ idxFrom q ll 0 = idxFrom q (ll.drop i.toNat) i)
    us.length ⟨0, exJ rfl, rfl, by omega, by omega, rfl⟩ ?_
  rintro n a L ⟨i, ⟨r, rfl⟩, rfl, h0, hn, hidx⟩ IH
  refine W ?_
  (first | refine LS_gt rfl ?_ ?_ | refine LS_gf rfl ?_ ?_ | refine LI_cond rfl ?_ ?_) <;> intro hc <;> have hc' := hc <;> try simp only [decide_eq_true_eq, decide_eq_false_iff_not, Bool.not_eq_true', Bool.not_eq_false', Bool.not_eq_true, Bool.not_eq_false, beq_iff_eq, bne_iff_ne, beq_eq_false_iff_ne, bne_eq_false_iff_eq, Int.not_lt, Int.not_le, ge_iff_le, gt_iff_lt, not_and, ne_eq, Decidable.not_not] at hc'
  all_goals (try (dsimp only [st, setL, AV.cells, List.set_cons_zero, List.set_cons_succ, List.drop_zero, List.drop_succ_cons, List.take_zero, List.take_succ_cons, Nat.zero_add, Nat.add_zero, Nat.reduceAdd, List.cons_append, List.nil_append, List.eraseIdx_cons_zero, List.eraseIdx_cons_succ]))
  all_goals (refine W ?_)
  · obtain ⟨u, hu, _, _⟩ := drop_at (l := us) h0 hc'
    obtain ⟨y, hy, hym, hd⟩ := drop_at (l := ll) h0 (by omega)
    rw [hd] at hidx
    refine LS_ix (fun h' HL => hR.le HL.le) enV1 hu h0 rfl rfl fun b o hrow => ?_
    try (dsimp only [st, setL, AV.cells, List.set_cons_zero, List.set_cons_succ, List.drop_zero, List.drop_succ_cons, List.take_zero, List.take_succ_cons, Nat.zero_add, Nat.add_zero, Nat.reduceAdd, List.cons_append, List.nil_append, List.eraseIdx_cons_zero, List.eraseIdx_cons_succ])
    refine W ?_
    refine LS_c0 (fun h' HL wf => hp i.toNat u y hu hy h' HL.le) rfl rfl ?_
    try (dsimp only [st, setL, AV.cells, List.set_cons_zero, List.set_cons_succ, List.drop_zero, List.drop_succ_cons, List.take_zero, List.take_succ_cons, Nat.zero_add, Nat.add_zero, Nat.reduceAdd, List.cons_append, List.nil_append, List.eraseIdx_cons_zero, List.eraseIdx_cons_succ])
    refine W ?_
    (first | refine LS_gt rfl ?_ ?_ | refine LS_gf rfl ?_ ?_ | refine LI_cond rfl ?_ ?_) <;> intro hc <;> have hc' := hc <;> try simp only [decide_eq_true_eq, decide_eq_false_iff_not, Bool.not_eq_true', Bool.not_eq_false', Bool.not_eq_true, Bool.not_eq_false, beq_iff_eq, bne_iff_ne, beq_eq_false_iff_ne, bne_eq_false_iff_eq, Int.not_lt, Int.not_le, ge_iff_le, gt_iff_lt, not_and, ne_eq, Decidable.not_not] at hc'
    all_goals (try (dsimp only [st, setL, AV.cells, List.set_cons_zero, List.set_cons_succ, List.drop_zero, List.drop_succ_cons, List.take_zero, List.take_succ_cons, Nat.zero_add, Nat.add_zero, Nat.reduceAdd, List.cons_append, List.nil_append, List.eraseIdx_cons_zero, List.eraseIdx_cons_succ]))
    all_goals (refine W ?_)
    · refine RET fun h' HL => ?_
      try dsimp only [oneA]
      refine ⟨?_, HL.le⟩
      rw [hidx]
      simp [idxFrom, hc]
    · refine IH (n - 1) _ _ (by omega) ⟨i + 1, exJ rfl, rfl, by omega, by omega, ?_⟩
      rw [hidx, toNat_succ h0]
      simp [idxFrom, hc]
  · refine RET fun h' HL => ?_
    try dsimp only [oneA]
    refine ⟨?_, HL.le⟩
    rw [hidx, List.drop_eq_nil_of_le (by omega)]
    rfl

theorem ContainsFuncSS_ac (ll : List (List Int)) (us : List AV) (v : AV) (g : FuncId) (caps : List AV) (q : List Int → Bool) (h : AH) (hR : RdG 1 enV h v us) (hlen : us.length = ll.length) (hl : us.length ≤ 4611686018427387904)
    (hp : ∀ (i : Nat) (u : AV) (x : List Int), us[i]? = some u → ll[i]? = some x → ∀ h', h.le h' → AC Try.prog g (u :: caps) h' (fun r h'' => r = .b (q x) ∧ h'.le h'')) :
    AC Try.prog 132 [v, .f g caps] h (fun r h' => r = .b (ll.any q) ∧ h.le h') := by
  refine e132 _ _ fun wf => ?_
  unfold c132
  refine LI_start wf ?_
  refine W ?_
  refine LS_c0 (fun h' HL wf => IndexFuncSS_ac ll us v g caps q h' (hR.le HL.le) hlen hl (fun i u x hu hx h2 hle => hp i u x hu hx h2 (HL.le.trans hle))) rfl rfl ?_
  try (dsimp only [st, setL, AV.cells, List.set_cons_zero, List.set_cons_succ, List.drop_zero, List.drop_succ_cons, List.take_zero, List.take_succ_cons, Nat.zero_add, Nat.add_zero, Nat.reduceAdd, List.cons_append, List.nil_append, List.eraseIdx_cons_zero, List.eraseIdx_cons_succ])
  refine W ?_
  refine RET fun h' HL => ?_
  try dsimp only [oneA]
  refine ⟨?_, HL.le⟩
  simp only [← idxFrom_any q ll 0 (by omega), ge_iff_le]

structure PlP (h : AH) (b : Nat) (p : PlanM) (vs vo : AV) : Prop where
  row : h.row b 0 3 = some [.i .i64 p.n, vs, vo]
  steps : RdG 2 enStep h vs p.steps
  outs : Rd h vo p.outs

theorem PlP.le {h h' : AH} {b : Nat} {p : PlanM} {vs vo : AV} (H : PlP h b p vs vo) (hle : h.le h') : PlP h' b p vs vo := ⟨hle.row H.row, H.steps.le hle, H.outs.le hle⟩

theorem PlP.frz {h : AH} {b : Nat} {p : PlanM} {vs vo : AV} (H : PlP h b p vs vo) : PlP h.frz b p vs vo := ⟨H.row, H.steps.frz, H.outs.frz⟩

theorem PlP.c0 {h : AH} {b : Nat} {p : PlanM} {vs vo : AV} (H : PlP h b p vs vo) : h.cell b 0 = some (.i .i64 p.n) := row_cell H.row (j := 0) (by decide)

theorem PlP.c1 {h : AH} {b : Nat} {p : PlanM} {vs vo : AV} (H : PlP h b p vs vo) : h.cell b 1 = some vs := row_cell H.row (j := 1) (by decide)

theorem PlP.c2 {h : AH} {b : Nat} {p : PlanM} {vs vo : AV} (H : PlP h b p vs vo) : h.cell b 2 = some vo := row_cell H.row (j := 2) (by decide)

theorem many_ac (p : PlanM) (b : Nat) (vs vo : AV) (h : AH) (hp : PlP h b p vs vo) (hb0 : -10 ≤ p.n) (hb1 : p.n ≤ 1048576) (hl : p.steps.length ≤ 1048576) :
    AC Try.prog 115 [.p b 0] h (fun r h' => r = .i .i64 (p.n + p.steps.length) ∧ h.le h') := by
  have c0 := hp.c0
  have c1 := hp.c1
  have hs := hp.steps
  refine e115 _ fun wf => ?_
  unfold c115
  refine LI_start wf ?_
  refine W ?_
  refine dz115_0 ?_
  refine WX ?_
  refine W ?_
  refine RET fun h' HL => ?_
  try dsimp only [oneA]
  exact ⟨rfl, HL.le⟩

theorem exponents_ac (p : PlanM) (b : Nat) (vs vo : AV) (h : AH) (hp : PlP h b p vs vo) (hn0 : 1 ≤ p.n) (hn1 : p.n ≤ 6) (hl : p.steps.length ≤ 40) (hf : formedS p.n 0 p.steps = true) :
    AC Try.prog 133 [.p b 0] h (fun r h' => ∃ M, (∃ us, us.length = (expsE p).length ∧ lenA r = some us.length ∧ r.sc = true ∧ M = ssI r us (expsE p)) ∧ Loq h h' M) := by
  have c0 := hp.c0
  have c1 := hp.c1
  have hs := hp.steps
  refine e133 _ fun wf => ?_
  unfold c133
  refine LI_start wf ?_
  refine W ?_
  refine LS_lt ([] : List AV) rfl rfl (by decide) rfl rfl rfl rfl enV1 rfl rfl fun lit0 hlit0 slit0 => ?_
  try (dsimp only [st, setL, AV.cells, List.set_cons_zero, List.set_cons_succ, List.drop_zero, List.drop_succ_cons, List.take_zero, List.take_succ_cons, Nat.zero_add, Nat.add_zero, Nat.reduceAdd, List.cons_append, List.nil_append, List.eraseIdx_cons_zero, List.eraseIdx_cons_succ])
  refine W ?_
  refine LIL_ind (fun n a L => ∃ (out : AV) (i : Int) (us : List AV), (∃ r : Nat → AV, a = [.p b 0, r 1, r 2, out, r 4, r 5, r 6, r 7, r 8, r 9, r 10, r 11, r 12, r 13, r 14, .i .i64 p.n, .i .i64 i, r 17, r 18, r 19, r 20, r 21, r 22, r 23, r 24, r 25, r 26, r 27, r 28, r 29, r 30, r 31, r 32, r 33, r 34, r 35, r 36, r 37, r 38, r 39, r 40, r 41, r 42, r 43, r 44, r 45, r 46, r 47, r 48, r 49, r 50, r 51, r 52, r 53, r 54, r 55, r 56, r 57, r 58, r 59, r 60, r 61, r 62, r 63, r 64, r 65, r 66, r 67, r 68, r 69, r 70, r 71, r 72, r 73]) ∧ L = .sl out 1 (us.flatMap enV) :: (rowsI us ((unitsE p.n.toNat).take i.toNat) ++ []) ∧ us.length = i.toNat ∧ 0 ≤ i ∧ i + n = p.n)
    p.n.toNat ⟨lit0, 0, [], exJ rfl, rfl, rfl, by omega, by omega⟩ ?_
  rintro n a L ⟨out, i, us, ⟨r, rfl⟩, rfl, hus, h0, hn⟩ IH
  have hul : us.length = ((unitsE p.n.toNat).take i.toNat).length := by rw [hus]; simp [unitsE]; omega
  refine W ?_
  (first | refine LS_gt rfl ?_ ?_ | refine LS_gf rfl ?_ ?_ | refine LI_cond rfl ?_ ?_) <;> intro hc <;> have hc' := hc <;> try simp only [decide_eq_true_eq, decide_eq_false_iff_not, Bool.not_eq_true', Bool.not_eq_false', Bool.not_eq_true, Bool.not_eq_false, beq_iff_eq, bne_iff_ne, beq_eq_false_iff_ne, bne_eq_false_iff_eq, Int.not_lt, Int.not_le, ge_iff_le, gt_iff_lt, not_and, ne_eq, Decidable.not_not] at hc'
  all_goals (try (dsimp only [st, setL, AV.cells, List.set_cons_zero, List.set_cons_succ, List.drop_zero, List.drop_succ_cons, List.take_zero, List.take_succ_cons, Nat.zero_add, Nat.add_zero, Nat.reduceAdd, List.cons_append, List.nil_append, List.eraseIdx_cons_zero, List.eraseIdx_cons_succ]))
  all_goals (refine W ?_)
  · refine LS_mk 0 rfl rfl rfl rfl rfl (by omega) (by omega) (by omega) enI1 rfl fun b2 => ?_
    try (dsimp only [st, setL, AV.cells, List.set_cons_zero, List.set_cons_succ, List.drop_zero, List.drop_succ_cons, List.take_zero, List.take_succ_cons, Nat.zero_add, Nat.add_zero, Nat.reduceAdd, List.cons_append, List.nil_append, List.eraseIdx_cons_zero, List.eraseIdx_cons_succ])
    refine W ?_
    refine LS_is h0 (by omega) rfl rfl ?_
    try (dsimp only [st, setL, AV.cells, List.set_cons_zero, List.set_cons_succ, List.drop_zero, List.drop_succ_cons, List.take_zero, List.take_succ_cons, Nat.zero_add, Nat.add_zero, Nat.reduceAdd, List.cons_append, List.nil_append, List.eraseIdx_cons_zero, List.eraseIdx_cons_succ])
    refine W ?_
    refine LS_ss 1 0 i.toNat rfl (by simp; omega) (by omega) rfl enI1 (by decide) rfl rfl rfl ?_
    try (dsimp only [st, setL, AV.cells, List.set_cons_zero, List.set_cons_succ, List.drop_zero, List.drop_succ_cons, List.take_zero, List.take_succ_cons, Nat.zero_add, Nat.add_zero, Nat.reduceAdd, List.cons_append, List.nil_append, List.eraseIdx_cons_zero, List.eraseIdx_cons_succ])
    refine W ?_
    rw [set_unit]
    refine LS_ltV rfl rfl rfl rfl fun lit hlit slit => ?_
    try (dsimp only [st, setL, AV.cells, List.set_cons_zero, List.set_cons_succ, List.drop_zero, List.drop_succ_cons, List.take_zero, List.take_succ_cons, Nat.zero_add, Nat.add_zero, Nat.reduceAdd, List.cons_append, List.nil_append, List.eraseIdx_cons_zero, List.eraseIdx_cons_succ])
    refine W ?_
    refine LS_ap 2 rfl (fun h' HL => HL.rdI 0 rfl enV1 (by decide)) enV1 (by decide) (by simp) (by simp; omega) (by simp; omega) rfl rfl rfl fun w hw sw => ?_
    try (dsimp only [st, setL, AV.cells, List.set_cons_zero, List.set_cons_succ, List.drop_zero, List.drop_succ_cons, List.take_zero, List.take_succ_cons, Nat.zero_add, Nat.add_zero, Nat.reduceAdd, List.cons_append, List.nil_append, List.eraseIdx_cons_zero, List.eraseIdx_cons_succ])
    refine W ?_
    refine LIL_drop 1 (LIL_push [_] hul ?_)
    refine IH (n - 1) _ _ (by omega) ⟨w, i + 1, us ++ [AV.sl b2 0 p.n.toNat true], exJ rfl, by rw [toNat_succ h0, unit_next (by omega)]; rfl, by rw [toNat_succ h0]; simp [hus], by omega, by omega⟩
  · have hi : i.toNat = p.n.toNat := by omega
    have e0 : (unitsE p.n.toNat).take i.toNat = expsT p 0 := by rw [hi, List.take_of_length_le (by simp [unitsE])]; rfl
    rw [e0]
    clear IH
    rw [e0] at hul
    refine LIL_ind (fun n a L => ∃ (out : AV) (i : Int) (us : List AV), (∃ r : Nat → AV, a = [r 0, r 1, r 2, out, r 4, r 5, r 6, r 7, r 8, r 9, r 10, r 11, r 12, r 13, r 14, r 15, r 16, r 17, r 18, r 19, r 20, r 21, r 22, r 23, r 24, r 25, r 26, r 27, r 28, r 29, r 30, r 31, r 32, r 33, r 34, vs, .i .i64 p.steps.length, .i .i64 i, r 38, r 39, r 40, r 41, r 42, r 43, r 44, r 45, r 46, r 47, r 48, r 49, r 50, r 51, r 52, r 53, r 54, r 55, r 56, r 57, r 58, r 59, r 60, r 61, r 62, r 63, r 64, r 65, r 66, r 67, r 68, r 69, r 70, r 71, r 72, r 73]) ∧ L = .sl out 1 (us.flatMap enV) :: (rowsI us (expsT p i.toNat) ++ []) ∧ us.length = (expsT p i.toNat).length ∧ 0 ≤ i ∧ i + n = p.steps.length)
      p.steps.length ⟨out, 0, us, exJ rfl, rfl, hul, by omega, by omega⟩ ?_
    rintro n a L ⟨out, i, us, ⟨r, rfl⟩, rfl, hul, h0, hn⟩ IH
    obtain ⟨hel, hro⟩ := expsT_ok hf hn0 i.toNat (by omega)
    refine W ?_
    (first | refine LS_gt rfl ?_ ?_ | refine LS_gf rfl ?_ ?_ | refine LI_cond rfl ?_ ?_) <;> intro hc <;> have hc' := hc <;> try simp only [decide_eq_true_eq, decide_eq_false_iff_not, Bool.not_eq_true', Bool.not_eq_false', Bool.not_eq_true, Bool.not_eq_false, beq_iff_eq, bne_iff_ne, beq_eq_false_iff_ne, bne_eq_false_iff_eq, Int.not_lt, Int.not_le, ge_iff_le, gt_iff_lt, not_and, ne_eq, Decidable.not_not] at hc'
    all_goals (try (dsimp only [st, setL, AV.cells, List.set_cons_zero, List.set_cons_succ, List.drop_zero, List.drop_succ_cons, List.take_zero, List.take_succ_cons, Nat.zero_add, Nat.add_zero, Nat.reduceAdd, List.cons_append, List.nil_append, List.eraseIdx_cons_zero, List.eraseIdx_cons_succ]))
    all_goals (refine W ?_)
    · obtain ⟨s, hs', _, _⟩ := drop_at h0 hc'
      have hb := formedS_get hf hs'
      obtain ⟨u, hu⟩ := at_ (l := us) (i := s.1.toNat) (by omega)
      obtain ⟨u', hu'⟩ := at_ (l := us) (i := s.2.toNat) (by omega)
      have hx := getD_get (ll := expsT p i.toNat) (i := s.1.toNat) (by omega)
      have hy := getD_get (ll := expsT p i.toNat) (i := s.2.toNat) (by omega)
      have rx := hro _ (List.mem_of_getElem? hx)
      have ry := hro _ (List.mem_of_getElem? hy)
      have hst := expsT_succ hs'
      generalize hX : (expsT p i.toNat).getD s.1.toNat [] = X at hx rx
      generalize hY : (expsT p i.toNat).getD s.2.toNat [] = Y at hy ry
      refine LS_ix (fun h' HL => hs.le HL.le) enStep2 hs' h0 rfl rfl fun q o hrow => ?_
      try (dsimp only [st, setL, AV.cells, List.set_cons_zero, List.set_cons_succ, List.drop_zero, List.drop_succ_cons, List.take_zero, List.take_succ_cons, Nat.zero_add, Nat.add_zero, Nat.reduceAdd, List.cons_append, List.nil_append, List.eraseIdx_cons_zero, List.eraseIdx_cons_succ])
      refine W ?_
      refine LS_al rfl fun b5 => ?_
      try (dsimp only [st, setL, AV.cells, List.set_cons_zero, List.set_cons_succ, List.drop_zero, List.drop_succ_cons, List.take_zero, List.take_succ_cons, Nat.zero_add, Nat.add_zero, Nat.reduceAdd, List.cons_append, List.nil_append, List.eraseIdx_cons_zero, List.eraseIdx_cons_succ])
      refine W ?_
      refine LS_lt ([] : List Int) rfl rfl (by decide) rfl rfl rfl rfl enI1 rfl rfl fun lit1 hlit1 slit1 => ?_
      try (dsimp only [st, setL, AV.cells, List.set_cons_zero, List.set_cons_succ, List.drop_zero, List.drop_succ_cons, List.take_zero, List.take_succ_cons, Nat.zero_add, Nat.add_zero, Nat.reduceAdd, List.cons_append, List.nil_append, List.eraseIdx_cons_zero, List.eraseIdx_cons_succ])
      refine W ?_
      refine LS_ix (fun h' HL => HL.rdI 2 rfl enV1 (by decide)) enV1 hu (by omega) rfl rfl fun q1 o1 hrow1 => ?_
      try (dsimp only [st, setL, AV.cells, List.set_cons_zero, List.set_cons_succ, List.drop_zero, List.drop_succ_cons, List.take_zero, List.take_succ_cons, Nat.zero_add, Nat.add_zero, Nat.reduceAdd, List.cons_append, List.nil_append, List.eraseIdx_cons_zero, List.eraseIdx_cons_succ])
      refine W ?_
      refine LS_have (fun h' HL => ((HL.rdM (List.mem_cons_of_mem _ (List.mem_cons_of_mem _ (List.mem_cons_of_mem _ (rowsI_in hu hx)))) enI1 (by decide)).len)) fun hlu => ?_
      refine W ?_
      refine LIL_ind (fun n a L => ∃ (row : AV) (k : Int), (∃ r : Nat → AV, a = [r 0, r 1, r 2, out, r 4, r 5, r 6, .p b5 0, row, r 9, r 10, r 11, r 12, r 13, r 14, r 15, r 16, r 17, r 18, r 19, r 20, r 21, r 22, r 23, r 24, r 25, r 26, r 27, r 28, r 29, r 30, r 31, r 32, r 33, r 34, vs, .i .i64 p.steps.length, .i .i64 i, r 38, r 39, r 40, r 41, r 42, r 43, r 44, r 45, u, .i .i64 X.length, .i .i64 k, r 49, r 50, r 51, r 52, r 53, r 54, r 55, r 56, r 57, r 58, r 59, r 60, r 61, r 62, r 63, r 64, r 65, r 66, r 67, r 68, r 69, r 70, r 71, r 72, r 73]) ∧ L = .sl row 1 ((sumR (X.take k.toNat) (Y.take k.toNat)).flatMap enI) :: .pt b5 (enStep s) :: .sl out 1 (us.flatMap enV) :: (rowsI us (expsT p i.toNat) ++ []) ∧ 0 ≤ k ∧ k + n = X.length)
        X.length ⟨lit1, 0, exJ rfl, rfl, by omega, by omega⟩ ?_
      rintro m a L ⟨row, k, ⟨r, rfl⟩, rfl, hk0, hkm⟩ IH2
      refine W ?_
      (first | refine LS_gt rfl ?_ ?_ | refine LS_gf rfl ?_ ?_ | refine LI_cond rfl ?_ ?_) <;> intro hc <;> have hc' := hc <;> try simp only [decide_eq_true_eq, decide_eq_false_iff_not, Bool.not_eq_true', Bool.not_eq_false', Bool.not_eq_true, Bool.not_eq_false, beq_iff_eq, bne_iff_ne, beq_eq_false_iff_ne, bne_eq_false_iff_eq, Int.not_lt, Int.not_le, ge_iff_le, gt_iff_lt, not_and, ne_eq, Decidable.not_not] at hc'
      all_goals (try (dsimp only [st, setL, AV.cells, List.set_cons_zero, List.set_cons_succ, List.drop_zero, List.drop_succ_cons, List.take_zero, List.take_succ_cons, Nat.zero_add, Nat.add_zero, Nat.reduceAdd, List.cons_append, List.nil_append, List.eraseIdx_cons_zero, List.eraseIdx_cons_succ]))
      all_goals (refine W ?_)
      · obtain ⟨xa, hxa, hxm, _⟩ := drop_at (l := X) hk0 hc'
        obtain ⟨ya, hya, hym, _⟩ := drop_at (l := Y) hk0 (by omega)
        have b1 := rx.2 xa hxm
        have b2 := ry.2 ya hym
        have hlen : (sumR (X.take k.toNat) (Y.take k.toNat)).length = k.toNat := by rw [sumR_len (by simp; omega)]; simp; omega
        refine LS_ix (fun h' HL => HL.rdM (List.mem_cons_of_mem _ (List.mem_cons_of_mem _ (List.mem_cons_of_mem _ (rowsI_in hu hx)))) enI1 (by decide)) enI1 hxa hk0 rfl rfl fun q2 o2 hrow2 => ?_
        try (dsimp only [st, setL, AV.cells, List.set_cons_zero, List.set_cons_succ, List.drop_zero, List.drop_succ_cons, List.take_zero, List.take_succ_cons, Nat.zero_add, Nat.add_zero, Nat.reduceAdd, List.cons_append, List.nil_append, List.eraseIdx_cons_zero, List.eraseIdx_cons_succ])
        refine W ?_
        refine LS_ix (fun h' HL => HL.rdI 2 rfl enV1 (by decide)) enV1 hu' (by omega) rfl rfl fun q3 o3 hrow3 => ?_
        try (dsimp only [st, setL, AV.cells, List.set_cons_zero, List.set_cons_succ, List.drop_zero, List.drop_succ_cons, List.take_zero, List.take_succ_cons, Nat.zero_add, Nat.add_zero, Nat.reduceAdd, List.cons_append, List.nil_append, List.eraseIdx_cons_zero, List.eraseIdx_cons_succ])
        refine W ?_
        refine LS_ix (fun h' HL => HL.rdM (List.mem_cons_of_mem _ (List.mem_cons_of_mem _ (List.mem_cons_of_mem _ (rowsI_in hu' hy)))) enI1 (by decide)) enI1 hya hk0 rfl rfl fun q4 o4 hrow4 => ?_
        try (dsimp only [st, setL, AV.cells, List.set_cons_zero, List.set_cons_succ, List.drop_zero, List.drop_succ_cons, List.take_zero, List.take_succ_cons, Nat.zero_add, Nat.add_zero, Nat.reduceAdd, List.cons_append, List.nil_append, List.eraseIdx_cons_zero, List.eraseIdx_cons_succ])
        refine W ?_
        refine LS_lt [if (1000001 : Int) < xa + ya then 1000001 else xa + ya] rfl rfl (by decide) rfl rfl rfl rfl enI1 rfl rfl fun lit2 hlit2 slit2 => ?_
        try (dsimp only [st, setL, AV.cells, List.set_cons_zero, List.set_cons_succ, List.drop_zero, List.drop_succ_cons, List.take_zero, List.take_succ_cons, Nat.zero_add, Nat.add_zero, Nat.reduceAdd, List.cons_append, List.nil_append, List.eraseIdx_cons_zero, List.eraseIdx_cons_succ])
        refine W ?_
        refine LS_ap 1 rfl (fun h' HL => HL.rdI 0 rfl enI1 (by decide)) enI1 (by decide) (by simp) (by simp; omega) (by simp; omega) rfl rfl rfl fun w hw sw => ?_
        try (dsimp only [st, setL, AV.cells, List.set_cons_zero, List.set_cons_succ, List.drop_zero, List.drop_succ_cons, List.take_zero, List.take_succ_cons, Nat.zero_add, Nat.add_zero, Nat.reduceAdd, List.cons_append, List.nil_append, List.eraseIdx_cons_zero, List.eraseIdx_cons_succ])
        refine W ?_
        refine LIL_drop 1 ?_
        refine IH2 (m - 1) _ _ (by omega) ⟨w, k + 1, exJ rfl, ?_, by omega, by omega⟩
        rw [toNat_succ hk0, sumR_take hxa hya, show (if xa + ya < 1000001 then xa + ya else 1000001) = if (1000001 : Int) < xa + ya then 1000001 else xa + ya by split <;> split <;> omega]
        rfl
      · have e : k.toNat = X.length := by omega
        have ey : (Y.take X.length) = Y := List.take_of_length_le (by omega)
        rw [e, List.take_length, ey]
        refine LS_have (fun h' HL => rd_sc (HL.rdI 0 rfl enI1 (by decide))) fun srow => ?_
        refine LS_ltV rfl rfl srow rfl fun lit3 hlit3 slit3 => ?_
        try (dsimp only [st, setL, AV.cells, List.set_cons_zero, List.set_cons_succ, List.drop_zero, List.drop_succ_cons, List.take_zero, List.take_succ_cons, Nat.zero_add, Nat.add_zero, Nat.reduceAdd, List.cons_append, List.nil_append, List.eraseIdx_cons_zero, List.eraseIdx_cons_succ])
        refine W ?_
        refine LS_ap 3 rfl (fun h' HL => HL.rdI 0 rfl enV1 (by decide)) enV1 (by decide) (by simp) (by simp; omega) (by simp; omega) rfl rfl rfl fun w hw sw => ?_
        try (dsimp only [st, setL, AV.cells, List.set_cons_zero, List.set_cons_succ, List.drop_zero, List.drop_succ_cons, List.take_zero, List.take_succ_cons, Nat.zero_add, Nat.add_zero, Nat.reduceAdd, List.cons_append, List.nil_append, List.eraseIdx_cons_zero, List.eraseIdx_cons_succ])
        refine W ?_
        refine LIL_drop 1 (LIL_rot 1 rfl (LIL_drop 1 (LIL_push [_] hul ?_)))
        refine IH (n - 1) _ _ (by omega) ⟨w, i + 1, us ++ [row], exJ rfl, by rw [toNat_succ h0, hst, stepE, hX, hY]; rfl, by rw [toNat_succ h0, hst]; simp [stepE, hul], by omega, by omega⟩
    · have e : i.toNat = p.steps.length := by omega
      rw [e, expsT_end] at hul
      rw [e, expsT_end]
      refine RET fun h' HL => ?_
      try dsimp only [oneA]
      have hO := HL.rdI 0 rfl enV1 (by decide)
      exact ⟨_, ⟨us, hul, hO.len, rd_sc hO, rfl⟩, HL⟩

theorem formed_1_ac (x : Int) (p : PlanM) (b q : Nat) (vs vo : AV) (h : AH) (hq : h.cell q 0 = some (.p b 0)) (hp : PlP h b p vs vo) (hb0 : -10 ≤ p.n) (hb1 : p.n ≤ 1048576) (hl : p.steps.length ≤ 1048576) :
    AC Try.prog 156 [.i .i64 x, .p q 0] h (fun r h' => r = .b (!decide (0 ≤ x ∧ x ≤ p.n + p.steps.length - 1)) ∧ h.le h') := by
  refine e156 _ _ fun wf => ?_
  unfold c156
  refine LI_start wf ?_
  refine W ?_
  refine LS_c0 (fun h' HL wf => many_ac p b vs vo h' (hp.le HL.le) hb0 hb1 hl) rfl rfl ?_
  try (dsimp only [st, setL, AV.cells, List.set_cons_zero, List.set_cons_succ, List.drop_zero, List.drop_succ_cons, List.take_zero, List.take_succ_cons, Nat.zero_add, Nat.add_zero, Nat.reduceAdd, List.cons_append, List.nil_append, List.eraseIdx_cons_zero, List.eraseIdx_cons_succ])
  refine W ?_
  refine LS_c0' (fun h' HL wf => in_ac x 0 _ h') rfl rfl ?_
  try (dsimp only [st, setL, AV.cells, List.set_cons_zero, List.set_cons_succ, List.drop_zero, List.drop_succ_cons, List.take_zero, List.take_succ_cons, Nat.zero_add, Nat.add_zero, Nat.reduceAdd, List.cons_append, List.nil_append, List.eraseIdx_cons_zero, List.eraseIdx_cons_succ])
  refine W ?_
  refine RET fun h' HL => ?_
  try dsimp only [oneA]
  exact ⟨rfl, HL.le⟩

theorem formed_ac (p : PlanM) (b : Nat) (vs vo : AV) (h : AH) (hp : PlP h b p vs vo) (hw : inI p.n) (hl : p.steps.length ≤ 1048576) (hl2 : p.outs.length ≤ 1048576) (hw2 : ∀ s ∈ p.steps, inI s.1 ∧ inI s.2) :
    AC Try.prog 131 [.p b 0] h (fun r h' => r = .b (planForm p && outsOk p) ∧ h.le h') := by
  have c0 := hp.c0
  have c1 := hp.c1
  have c2 := hp.c2
  have hs := hp.steps
  have ho := hp.outs
  refine e131 _ fun wf => ?_
  unfold c131
  refine LI_start wf ?_
  refine W ?_
  refine LS_bx1 rfl rfl fun b1 => ?_
  try (dsimp only [st, setL, AV.cells, List.set_cons_zero, List.set_cons_succ, List.drop_zero, List.drop_succ_cons, List.take_zero, List.take_succ_cons, Nat.zero_add, Nat.add_zero, Nat.reduceAdd, List.cons_append, List.nil_append, List.eraseIdx_cons_zero, List.eraseIdx_cons_succ])
  refine W ?_
  refine LS_c0' (fun h' HL wf => in_ac p.n 1 6 h') rfl rfl ?_
  try (dsimp only [st, setL, AV.cells, List.set_cons_zero, List.set_cons_succ, List.drop_zero, List.drop_succ_cons, List.take_zero, List.take_succ_cons, Nat.zero_add, Nat.add_zero, Nat.reduceAdd, List.cons_append, List.nil_append, List.eraseIdx_cons_zero, List.eraseIdx_cons_succ])
  refine W ?_
  (first | refine LS_gt rfl ?_ ?_ | refine LS_gf rfl ?_ ?_ | refine LI_cond rfl ?_ ?_) <;> intro hc <;> have hc' := hc <;> try simp only [decide_eq_true_eq, decide_eq_false_iff_not, Bool.not_eq_true', Bool.not_eq_false', Bool.not_eq_true, Bool.not_eq_false, beq_iff_eq, bne_iff_ne, beq_eq_false_iff_ne, bne_eq_false_iff_eq, Int.not_lt, Int.not_le, ge_iff_le, gt_iff_lt, not_and, ne_eq, Decidable.not_not] at hc'
  all_goals (try (dsimp only [st, setL, AV.cells, List.set_cons_zero, List.set_cons_succ, List.drop_zero, List.drop_succ_cons, List.take_zero, List.take_succ_cons, Nat.zero_add, Nat.add_zero, Nat.reduceAdd, List.cons_append, List.nil_append, List.eraseIdx_cons_zero, List.eraseIdx_cons_succ]))
  all_goals (refine W ?_)
  · have hn := of_decide_eq_true (nf hc)
    (first | refine LS_gt rfl ?_ ?_ | refine LS_gf rfl ?_ ?_ | refine LI_cond rfl ?_ ?_) <;> intro hc <;> have hc' := hc <;> try simp only [decide_eq_true_eq, decide_eq_false_iff_not, Bool.not_eq_true', Bool.not_eq_false', Bool.not_eq_true, Bool.not_eq_false, beq_iff_eq, bne_iff_ne, beq_eq_false_iff_ne, bne_eq_false_iff_eq, Int.not_lt, Int.not_le, ge_iff_le, gt_iff_lt, not_and, ne_eq, Decidable.not_not] at hc'
    all_goals (try (dsimp only [st, setL, AV.cells, List.set_cons_zero, List.set_cons_succ, List.drop_zero, List.drop_succ_cons, List.take_zero, List.take_succ_cons, Nat.zero_add, Nat.add_zero, Nat.reduceAdd, List.cons_append, List.nil_append, List.eraseIdx_cons_zero, List.eraseIdx_cons_succ]))
    all_goals (refine W ?_)
    · have hl40 := hc'
      (first | refine LS_gt rfl ?_ ?_ | refine LS_gf rfl ?_ ?_ | refine LI_cond rfl ?_ ?_) <;> intro hc <;> have hc' := hc <;> try simp only [decide_eq_true_eq, decide_eq_false_iff_not, Bool.not_eq_true', Bool.not_eq_false', Bool.not_eq_true, Bool.not_eq_false, beq_iff_eq, bne_iff_ne, beq_eq_false_iff_ne, bne_eq_false_iff_eq, Int.not_lt, Int.not_le, ge_iff_le, gt_iff_lt, not_and, ne_eq, Decidable.not_not] at hc'
      all_goals (try (dsimp only [st, setL, AV.cells, List.set_cons_zero, List.set_cons_succ, List.drop_zero, List.drop_succ_cons, List.take_zero, List.take_succ_cons, Nat.zero_add, Nat.add_zero, Nat.reduceAdd, List.cons_append, List.nil_append, List.eraseIdx_cons_zero, List.eraseIdx_cons_succ]))
      all_goals (refine W ?_)
      · rw [show planForm p = false by simp only [planForm]; simp; omega, Bool.false_and]
        refine RET fun h' HL => ?_
        try dsimp only [oneA]
        exact ⟨rfl, HL.le⟩
      · have ho6 := hc'
        have hpf : planForm p = formedS p.n 0 p.steps := by
          simp only [planForm, hn, and_self, decide_true, Bool.true_and]
          rw [decide_eq_true (by omega), decide_eq_true (by omega)]
          simp
        refine LIL_ind (fun n a L => ∃ (i : Int), (∃ r : Nat → AV, a = [r 0, .p b1 0, r 2, r 3, r 4, r 5, r 6, r 7, r 8, r 9, r 10, r 11, r 12, r 13, r 14, r 15, r 16, r 17, r 18, r 19, r 20, r 21, r 22, r 23, r 24, r 25, r 26, r 27, r 28, r 29, vs, .i .i64 p.steps.length, .i .i64 i, r 33, r 34, r 35, r 36, r 37, r 38, r 39, r 40, r 41, r 42, r 43, r 44, r 45, r 46, r 47, r 48, r 49, r 50, r 51, r 52, r 53, r 54, r 55, r 56, r 57, r 58, r 59, r 60, r 61, r 62, r 63, r 64, r 65]) ∧ L = [.pt b1 [.p b 0]] ∧ 0 ≤ i ∧ i + n = p.steps.length ∧ formedS p.n 0 p.steps = formedS p.n i.toNat (p.steps.drop i.toNat))
          p.steps.length ⟨0, exJ rfl, rfl, by omega, by omega, rfl⟩ ?_
        rintro n a L ⟨i, ⟨r, rfl⟩, rfl, h0, hni, hfs⟩ IH
        refine W ?_
        (first | refine LS_gt rfl ?_ ?_ | refine LS_gf rfl ?_ ?_ | refine LI_cond rfl ?_ ?_) <;> intro hc <;> have hc' := hc <;> try simp only [decide_eq_true_eq, decide_eq_false_iff_not, Bool.not_eq_true', Bool.not_eq_false', Bool.not_eq_true, Bool.not_eq_false, beq_iff_eq, bne_iff_ne, beq_eq_false_iff_ne, bne_eq_false_iff_eq, Int.not_lt, Int.not_le, ge_iff_le, gt_iff_lt, not_and, ne_eq, Decidable.not_not] at hc'
        all_goals (try (dsimp only [st, setL, AV.cells, List.set_cons_zero, List.set_cons_succ, List.drop_zero, List.drop_succ_cons, List.take_zero, List.take_succ_cons, Nat.zero_add, Nat.add_zero, Nat.reduceAdd, List.cons_append, List.nil_append, List.eraseIdx_cons_zero, List.eraseIdx_cons_succ]))
        all_goals (refine W ?_)
        · obtain ⟨s, hs', hsm, hd⟩ := drop_at h0 hc'
          have hws := hw2 s hsm
          rw [formedS_drop hd] at hfs
          refine LS_ix (fun h' HL => hs.le HL.le) enStep2 hs' h0 rfl rfl fun q o hrow => ?_
          try (dsimp only [st, setL, AV.cells, List.set_cons_zero, List.set_cons_succ, List.drop_zero, List.drop_succ_cons, List.take_zero, List.take_succ_cons, Nat.zero_add, Nat.add_zero, Nat.reduceAdd, List.cons_append, List.nil_append, List.eraseIdx_cons_zero, List.eraseIdx_cons_succ])
          refine W ?_
          refine LS_al rfl fun b3 => ?_
          try (dsimp only [st, setL, AV.cells, List.set_cons_zero, List.set_cons_succ, List.drop_zero, List.drop_succ_cons, List.take_zero, List.take_succ_cons, Nat.zero_add, Nat.add_zero, Nat.reduceAdd, List.cons_append, List.nil_append, List.eraseIdx_cons_zero, List.eraseIdx_cons_succ])
          refine W ?_
          cases hA : decide (s.1 < 0) with
          | true =>
            refine dz131_0 ?_
            refine WX ?_
            refine W ?_
            rw [hpf, hfs, decide_eq_false (by have := of_decide_eq_true hA; omega), Bool.false_and, Bool.false_and]
            refine RET fun h' HL => ?_
            try dsimp only [oneA]
            exact ⟨rfl, HL.le⟩
          | false =>
            cases hB : decide (s.1 > s.2) with
            | true =>
              refine dz131_0 ?_
              refine WX ?_
              refine W ?_
              rw [hpf, hfs, decide_eq_false (by have := of_decide_eq_true hB; omega), Bool.false_and, Bool.false_and]
              refine RET fun h' HL => ?_
              try dsimp only [oneA]
              exact ⟨rfl, HL.le⟩
            | false =>
              have hA' := of_decide_eq_false hA
              have hB' := of_decide_eq_false hB
              refine dz131_0 ?_
              refine WX ?_
              refine W ?_
              (first | refine LS_gt rfl ?_ ?_ | refine LS_gf rfl ?_ ?_ | refine LI_cond rfl ?_ ?_) <;> intro hc <;> have hc' := hc <;> try simp only [decide_eq_true_eq, decide_eq_false_iff_not, Bool.not_eq_true', Bool.not_eq_false', Bool.not_eq_true, Bool.not_eq_false, beq_iff_eq, bne_iff_ne, beq_eq_false_iff_ne, bne_eq_false_iff_eq, Int.not_lt, Int.not_le, ge_iff_le, gt_iff_lt, not_and, ne_eq, Decidable.not_not] at hc'
              all_goals (try (dsimp only [st, setL, AV.cells, List.set_cons_zero, List.set_cons_succ, List.drop_zero, List.drop_succ_cons, List.take_zero, List.take_succ_cons, Nat.zero_add, Nat.add_zero, Nat.reduceAdd, List.cons_append, List.nil_append, List.eraseIdx_cons_zero, List.eraseIdx_cons_succ]))
              all_goals (refine W ?_)
              · rw [hpf, hfs, decide_eq_false (by omega), Bool.false_and, Bool.false_and]
                refine RET fun h' HL => ?_
                try dsimp only [oneA]
                exact ⟨rfl, HL.le⟩
              · refine LIL_drop 1 ?_
                refine IH (n - 1) _ _ (by omega) ⟨i + 1, exJ rfl, rfl, by omega, by omega, ?_⟩
                rw [hfs, decide_eq_true (by omega), Bool.true_and, toNat_succ h0]
        · have e : i.toNat = p.steps.length := by omega
          rw [e, List.drop_length] at hfs
          have hfs' : formedS p.n 0 p.steps = true := hfs
          clear IH
          refine LS_c0 (fun h' HL wf => ContainsFunc_int_ac p.outs vo _ _ (fun x => !decide (0 ≤ x ∧ x ≤ p.n + p.steps.length - 1)) h' (ho.le HL.le) (by omega) (fun x _ h2 hle => formed_1_ac x p b b1 vs vo h2 (hle.cell (HL.cellP 0 rfl rfl)) (hp.le (HL.le.trans hle)) (by omega) (by omega) (by omega))) rfl rfl ?_
          try (dsimp only [st, setL, AV.cells, List.set_cons_zero, List.set_cons_succ, List.drop_zero, List.drop_succ_cons, List.take_zero, List.take_succ_cons, Nat.zero_add, Nat.add_zero, Nat.reduceAdd, List.cons_append, List.nil_append, List.eraseIdx_cons_zero, List.eraseIdx_cons_succ])
          refine W ?_
          refine RET fun h' HL => ?_
          try dsimp only [oneA]
          refine ⟨?_, HL.le⟩
          rw [hpf, hfs', Bool.true_and, outsOk, any_not, Bool.not_not]
    · rw [show planForm p = false by simp only [planForm]; simp; omega, Bool.false_and]
      refine RET fun h' HL => ?_
      try dsimp only [oneA]
      exact ⟨rfl, HL.le⟩
  · have hn := of_decide_eq_false (nt hc)
    rw [show planForm p = false by simp only [planForm, decide_eq_false hn, Bool.false_and], Bool.false_and]
    refine RET fun h' HL => ?_
    try dsimp only [oneA]
    exact ⟨rfl, HL.le⟩

def maxL (m : Int) : List Int → Int
  | [] => m
  | x :: l => maxL (if x > m then x else m) l

theorem maxL_gt {b : Int} : ∀ (l : List Int) (m : Int), decide (maxL m l > b) = (decide (m > b) || l.any fun x => decide (x > b))
  | [], m => by simp [maxL]
  | x :: l, m => by
    rw [maxL, maxL_gt l]
    rw [List.any_cons, ← Bool.or_assoc]
    congr 1
    split <;> by_cases h1 : m > b <;> by_cases h2 : x > b <;> simp [h1, h2] <;> omega

theorem Max_ac (y : Int) (l : List Int) (v : AV) (h : AH) (hR : Rd h v (y :: l)) (hl : l.length ≤ 4611686018427387904) :
    AC Try.prog 107 [v] h (fun r h' => r = .i .i64 (maxL y l) ∧ h.le h') := by
  refine e107 _ fun wf => ?_
  unfold c107
  refine LI_start wf ?_
  refine W ?_
  first | (refine LS_gtnH rfl (decide_eq_false (by simp; omega)) ?_; intro hg; try (dsimp only [st, setL, AV.cells, List.set_cons_zero, List.set_cons_succ, List.drop_zero, List.drop_succ_cons, List.take_zero, List.take_succ_cons, Nat.zero_add, Nat.add_zero, Nat.reduceAdd, List.cons_append, List.nil_append, List.eraseIdx_cons_zero, List.eraseIdx_cons_succ])) | (refine LS_gfnH rfl (decide_eq_false (by simp; omega)) ?_; intro hg; try (dsimp only [st, setL, AV.cells, List.set_cons_zero, List.set_cons_succ, List.drop_zero, List.drop_succ_cons, List.take_zero, List.take_succ_cons, Nat.zero_add, Nat.add_zero, Nat.reduceAdd, List.cons_append, List.nil_append, List.eraseIdx_cons_zero, List.eraseIdx_cons_succ])) | (refine LI_cond_fH rfl (decide_eq_false (by simp; omega)) ?_; intro hg)
  refine W ?_
  refine LS_ix (n := 0) (y := y) (fun h' HL => hR.le HL.le) enI1 rfl (by decide) rfl rfl fun b o hrow => ?_
  try (dsimp only [st, setL, AV.cells, List.set_cons_zero, List.set_cons_succ, List.drop_zero, List.drop_succ_cons, List.take_zero, List.take_succ_cons, Nat.zero_add, Nat.add_zero, Nat.reduceAdd, List.cons_append, List.nil_append, List.eraseIdx_cons_zero, List.eraseIdx_cons_succ])
  refine W ?_
  refine LIL_ind (fun n a L => ∃ (m i : Int), (∃ r : Nat → AV, a = [v, r 1, r 2, .i .i64 m, .i .i64 i, r 5, r 6, r 7, r 8, r 9, r 10, r 11, r 12, r 13, r 14, r 15, r 16, r 17, r 18, r 19, r 20, r 21, r 22, r 23, r 24]) ∧ L = [] ∧ 1 ≤ i ∧ i + n = l.length + 1 ∧ maxL y l = maxL m (l.drop (i.toNat - 1)))
    l.length ⟨y, 1, exJ rfl, rfl, by omega, by omega, rfl⟩ ?_
  rintro n a L ⟨m, i, ⟨r, rfl⟩, rfl, h0, hn, heq⟩ IH
  refine W ?_
  (first | refine LS_gt rfl ?_ ?_ | refine LS_gf rfl ?_ ?_ | refine LI_cond rfl ?_ ?_) <;> intro hc <;> have hc' := hc <;> try simp only [decide_eq_true_eq, decide_eq_false_iff_not, Bool.not_eq_true', Bool.not_eq_false', Bool.not_eq_true, Bool.not_eq_false, beq_iff_eq, bne_iff_ne, beq_eq_false_iff_ne, bne_eq_false_iff_eq, Int.not_lt, Int.not_le, ge_iff_le, gt_iff_lt, not_and, ne_eq, Decidable.not_not] at hc'
  all_goals (try (dsimp only [st, setL, AV.cells, List.set_cons_zero, List.set_cons_succ, List.drop_zero, List.drop_succ_cons, List.take_zero, List.take_succ_cons, Nat.zero_add, Nat.add_zero, Nat.reduceAdd, List.cons_append, List.nil_append, List.eraseIdx_cons_zero, List.eraseIdx_cons_succ]))
  all_goals (refine W ?_)
  · simp only [List.length_cons] at hc'
    obtain ⟨z, hz, hzm, hd⟩ := drop_at (l := l) (i := i - 1) (by omega) (by omega)
    have e1 : (i - 1).toNat = i.toNat - 1 := by omega
    rw [e1] at hz hd
    rw [hd] at heq
    refine LS_ix (y := z) (fun h' HL => hR.le HL.le) enI1 (by rw [show i.toNat = (i.toNat - 1) + 1 by omega]; exact hz) (by omega) rfl rfl fun b o hrow => ?_
    try (dsimp only [st, setL, AV.cells, List.set_cons_zero, List.set_cons_succ, List.drop_zero, List.drop_succ_cons, List.take_zero, List.take_succ_cons, Nat.zero_add, Nat.add_zero, Nat.reduceAdd, List.cons_append, List.nil_append, List.eraseIdx_cons_zero, List.eraseIdx_cons_succ])
    refine W ?_
    refine IH (n - 1) _ _ (by omega) ⟨_, i + 1, exJ rfl, rfl, by omega, by omega, ?_⟩
    rw [heq, maxL, show (i + 1).toNat - 1 = i.toNat - 1 + 1 by omega]
  · refine RET fun h' HL => ?_
    try dsimp only [oneA]
    refine ⟨?_, HL.le⟩
    simp only [List.length_cons] at hc'
    rw [heq, List.drop_eq_nil_of_le (by omega)]
    rfl

theorem IsPlan_1_ac (x : List Int) (v : AV) (h : AH) (hR : Rd h v x) (h0 : 0 < x.length) (hl : x.length ≤ 4611686018427387904) :
    AC Try.prog 134 [v] h (fun r h' => r = .b (x.any fun y => decide (y > 1000000)) ∧ h.le h') := by
  cases x with
  | nil => simp at h0
  | cons y l =>
    refine e134 _ fun wf => ?_
    unfold c134
    refine LI_start wf ?_
    refine W ?_
    refine LS_c0 (fun h' HL wf => Max_ac y l v h' (hR.le HL.le) (by simp at hl; omega)) rfl rfl ?_
    try (dsimp only [st, setL, AV.cells, List.set_cons_zero, List.set_cons_succ, List.drop_zero, List.drop_succ_cons, List.take_zero, List.take_succ_cons, Nat.zero_add, Nat.add_zero, Nat.reduceAdd, List.cons_append, List.nil_append, List.eraseIdx_cons_zero, List.eraseIdx_cons_succ])
    refine W ?_
    refine RET fun h' HL => ?_
    try dsimp only [oneA]
    exact ⟨by rw [List.any_cons, ← maxL_gt], HL.le⟩

theorem small_any {r : List Int} (hb : row01 r) : (r.all fun x => decide (0 ≤ x ∧ x ≤ 1000000)) = !(r.any fun y => decide (y > 1000000)) := by
  rw [Bool.eq_iff_iff]
  simp only [List.all_eq_true, Bool.not_eq_true', List.any_eq_false, decide_eq_true_eq]
  constructor
  · intro H x hx
    have := H x hx
    omega
  · intro H x hx
    have h1 := H x hx
    have h2 := hb x hx
    omega

theorem all_not {α : Type} : ∀ {l : List α} {f g : α → Bool}, (∀ r ∈ l, f r = !g r) → l.all f = !l.any g
  | [], _, _, _ => rfl
  | x :: l, f, g, h => by
    rw [List.all_cons, List.any_cons, Bool.not_or, h x (by simp), all_not (l := l) (f := f) (g := g) fun r hr => h r (by simp [hr])]

theorem IsPlan_ac (p : PlanM) (v : AV) (h : AH) (hR : PlR h v p) (hw : inI p.n) (hl : p.steps.length ≤ 1048576) (hl2 : p.outs.length ≤ 1048576) (hw2 : ∀ s ∈ p.steps, inI s.1 ∧ inI s.2) :
    AC Try.prog 81 [v] h (fun r h' => r = .b (planOk p) ∧ h.le h') := by
  obtain ⟨vs, vo, rfl, hs, ho⟩ := hR
  refine e81 _ fun wf => ?_
  unfold c81
  refine LI_start wf ?_
  refine W ?_
  refine LS_bxn rfl (sc_cons rfl (sc_cons (rd_sc hs) (sc_cons (rd_sc ho) rfl))) fun b1 => ?_
  try (dsimp only [st, setL, AV.cells, List.set_cons_zero, List.set_cons_succ, List.drop_zero, List.drop_succ_cons, List.take_zero, List.take_succ_cons, Nat.zero_add, Nat.add_zero, Nat.reduceAdd, List.cons_append, List.nil_append, List.eraseIdx_cons_zero, List.eraseIdx_cons_succ])
  refine W ?_
  refine LS_c0 (fun h' HL wf => formed_ac p b1 vs vo h' ⟨HL.rowsP 0 rfl (Nat.le_refl 3) rfl, hs.le HL.le, ho.le HL.le⟩ hw hl hl2 hw2) rfl rfl ?_
  try (dsimp only [st, setL, AV.cells, List.set_cons_zero, List.set_cons_succ, List.drop_zero, List.drop_succ_cons, List.take_zero, List.take_succ_cons, Nat.zero_add, Nat.add_zero, Nat.reduceAdd, List.cons_append, List.nil_append, List.eraseIdx_cons_zero, List.eraseIdx_cons_succ])
  refine W ?_
  (first | refine LS_gt rfl ?_ ?_ | refine LS_gf rfl ?_ ?_ | refine LI_cond rfl ?_ ?_) <;> intro hc <;> have hc' := hc <;> try simp only [decide_eq_true_eq, decide_eq_false_iff_not, Bool.not_eq_true', Bool.not_eq_false', Bool.not_eq_true, Bool.not_eq_false, beq_iff_eq, bne_iff_ne, beq_eq_false_iff_ne, bne_eq_false_iff_eq, Int.not_lt, Int.not_le, ge_iff_le, gt_iff_lt, not_and, ne_eq, Decidable.not_not] at hc'
  all_goals (try (dsimp only [st, setL, AV.cells, List.set_cons_zero, List.set_cons_succ, List.drop_zero, List.drop_succ_cons, List.take_zero, List.take_succ_cons, Nat.zero_add, Nat.add_zero, Nat.reduceAdd, List.cons_append, List.nil_append, List.eraseIdx_cons_zero, List.eraseIdx_cons_succ]))
  all_goals (refine W ?_)
  · simp only [Bool.and_eq_true] at hc
    obtain ⟨hpf, hou⟩ := hc
    obtain ⟨h1, h2, h3, h4, h5⟩ := planForm_out hpf
    obtain ⟨hlen, hel⟩ := expsT_ok h5 h1 p.steps.length (Nat.le_refl _)
    rw [expsT_end] at hlen hel
    refine LS_c1 (fun h' HL wf => exponents_ac p b1 vs vo h' ⟨HL.rowsP 0 rfl (Nat.le_refl 3) rfl, hs.le HL.le, ho.le HL.le⟩ h1 h2 h3 h5) rfl rfl ?_
    try (dsimp only [st, setL, AV.cells, List.set_cons_zero, List.set_cons_succ, List.drop_zero, List.drop_succ_cons, List.take_zero, List.take_succ_cons, Nat.zero_add, Nat.add_zero, Nat.reduceAdd, List.cons_append, List.nil_append, List.eraseIdx_cons_zero, List.eraseIdx_cons_succ])
    refine W ?_
    rintro ex M ⟨us, hus, hrl, hrs, rfl⟩
    try (dsimp only [st, setL, AV.cells, List.set_cons_zero, List.set_cons_succ, List.drop_zero, List.drop_succ_cons, List.take_zero, List.take_succ_cons, Nat.zero_add, Nat.add_zero, Nat.reduceAdd, List.cons_append, List.nil_append, List.eraseIdx_cons_zero, List.eraseIdx_cons_succ])
    unfold ssI
    refine W ?_
    refine LS_c0 (fun h' HL wf => ContainsFuncSS_ac (expsE p) us ex _ _ (fun r => r.any fun y => decide (y > 1000000)) h' (HL.rdI 0 rfl enV1 (by decide)) hus (by omega) (fun i u x hu hx h2 hle => IsPlan_1_ac x u h2 ((HL.rdM (List.mem_cons_of_mem _ (List.mem_append_left _ (rowsI_in hu hx))) enI1 (by decide)).le hle) (by have := (hel x (List.mem_of_getElem? hx)).1; omega) (by have := (hel x (List.mem_of_getElem? hx)).1; omega))) rfl rfl ?_
    try (dsimp only [st, setL, AV.cells, List.set_cons_zero, List.set_cons_succ, List.drop_zero, List.drop_succ_cons, List.take_zero, List.take_succ_cons, Nat.zero_add, Nat.add_zero, Nat.reduceAdd, List.cons_append, List.nil_append, List.eraseIdx_cons_zero, List.eraseIdx_cons_succ])
    refine W ?_
    refine RET fun h' HL => ?_
    try dsimp only [oneA]
    refine ⟨?_, HL.le⟩
    simp only [planOk, hpf, hou, Bool.true_and, Bool.and_true, smallE]
    exact congrArg AV.b (all_not fun r hr => small_any (hel r hr).2).symm
  · refine RET fun h' HL => ?_
    try dsimp only [oneA]
    refine ⟨?_, HL.le⟩
    simp only [planOk]
    cases hpf : planForm p with
    | false => rfl
    | true => rw [hpf, Bool.true_and] at hc; rw [hc]; simp

/-- Small enough for the laws. -/
structure PSm (p : PlanM) : Prop where
  wf : p.wf
  ls : p.steps.length ≤ 1048576
  lo : p.outs.length ≤ 1048576

theorem isPlan_ac (p : PlanM) (v : AV) (h : AH) (hR : PlR h v p) (hw : PSm p) : AC Try.prog 81 [v] h (fun r h' => r = .b (planOk p) ∧ h.le h') := IsPlan_ac p v h hR hw.wf.n hw.ls hw.lo hw.wf.steps

theorem plr_of {h0 h : AH} {L : List It} {p : PlanM} {vs vo : AV} (H : Loq h0 h L) (i j : Nat) (h1 : L[i]? = some (.sl vs 2 (p.steps.flatMap enStep))) (h2 : L[j]? = some (.sl vo 1 (p.outs.flatMap enI))) : PlR h (.agg [.i .i64 p.n, vs, vo]) p :=
  ⟨vs, vo, rfl, H.rdI i h1 enStep2 (by decide), H.rdI j h2 enI1 (by decide)⟩

theorem loq_ns {h0 h : AH} {L : List It} (H : Loq h0 h L) (k : Nat) : Loq h0 h (.sl .ns k [] :: L) := H.cons (.inl ⟨rfl, rfl⟩) fun y hy => .sl fun b e => by cases e

/-- A list handed back, and whether. -/
def TupI (l : List Int) (ok : Bool) (r : AV) (M : List It) : Prop := ∃ w, r = .tup [w, .b ok] ∧ lenA w = some l.length ∧ w.sc = true ∧ M = [.sl w 1 (l.flatMap enI)]

theorem TupI.none {h0 h : AH} {L : List It} (H : Loq h0 h L) : ∃ M, TupI [] false (.tup [.ns, .b false]) M ∧ Loq h0 h M := ⟨_, ⟨.ns, rfl, rfl, rfl, rfl⟩, loq_ns (H.sub (List.nil_sublist _)) 1⟩

theorem l1Most_ac (a b : Int) (h : AH) : AC Try.prog 79 [.i .i64 a, .i .i64 b] h (fun r h' => r = .i .i64 (if b < a then a else b) ∧ h.le h') := by
  refine e79 _ _ fun wf => ?_
  unfold c79
  refine LI_start wf ?_
  refine W ?_
  (first | refine LS_gt rfl ?_ ?_ | refine LS_gf rfl ?_ ?_ | refine LI_cond rfl ?_ ?_) <;> intro hc <;> have hc' := hc <;> try simp only [decide_eq_true_eq, decide_eq_false_iff_not, Bool.not_eq_true', Bool.not_eq_false', Bool.not_eq_true, Bool.not_eq_false, beq_iff_eq, bne_iff_ne, beq_eq_false_iff_ne, bne_eq_false_iff_eq, Int.not_lt, Int.not_le, ge_iff_le, gt_iff_lt, not_and, ne_eq, Decidable.not_not] at hc'
  all_goals (try (dsimp only [st, setL, AV.cells, List.set_cons_zero, List.set_cons_succ, List.drop_zero, List.drop_succ_cons, List.take_zero, List.take_succ_cons, Nat.zero_add, Nat.add_zero, Nat.reduceAdd, List.cons_append, List.nil_append, List.eraseIdx_cons_zero, List.eraseIdx_cons_succ]))
  all_goals (refine W ?_)
  · refine RET fun h' HL => ?_
    try dsimp only [oneA]
    exact ⟨by rw [if_pos (by omega)], HL.le⟩
  · refine RET fun h' HL => ?_
    try dsimp only [oneA]
    exact ⟨by rw [if_neg (by omega)], HL.le⟩

theorem lit1 {v : AV} (h : v.cells = [v]) (hs : v.cells.all AV.sc = true) : litA 1 0 [(0, v)] = some [v] := by
  unfold litA
  rw [if_pos ⟨rfl, by rw [h]; rfl, hs⟩]
  simp [litA, h]

theorem half_lt {e : Int} (he : 0 < e) : 0 ≤ e.tdiv 2 ∧ e.tdiv 2 < e := by
  rw [Int.tdiv_eq_ediv_of_nonneg (by omega)]
  omega

theorem tdiv2_wrap {e : Int} (h0 : 0 ≤ e) (h1 : e ≤ 9223372036854775807) : IntKind.i64.wrap (e.tdiv 2) = e.tdiv 2 := by
  refine IntWalk.i64_in _ ⟨?_, ?_⟩ <;> rw [Int.tdiv_eq_ediv_of_nonneg (by omega)] <;> omega

theorem lit2 {x y : AV} (hx : x.sc = true) (hy : y.sc = true) : litA 1 0 [(0, x), (1, y)] = some ([x, y].flatMap enV) := by
  have e : ∀ v : AV, v.sc = true → v.cells = [v] := by intro v h; cases v <;> first | rfl | cases h
  simp [litA, e x hx, e y hy, hx, hy, enV]

def TupQ (l : List MatM) (ok : Bool) (r : AV) (M : List It) : Prop := ∃ w, r = .tup [w, .b ok] ∧ lenA w = some l.length ∧ w.sc = true ∧ M = [.sl w 4 (l.flatMap enMat)]

theorem TupQ.none {h0 h : AH} {L : List It} (H : Loq h0 h L) : ∃ M, TupQ [] false (.tup [.ns, .b false]) M ∧ Loq h0 h M := ⟨_, ⟨.ns, rfl, rfl, rfl, rfl⟩, loq_ns (H.sub (List.nil_sublist _)) 4⟩

def stepM (a b : Int) : Int × Int := (if b < a then b else a, if b > a then b else a)

theorem step_ac (x y : Int) (h : AH) : AC Try.prog 116 [.i .i64 x, .i .i64 y] h (fun r h' => r = .agg (enStep (stepM x y)) ∧ h.le h') := by
  refine e116 _ _ fun wf => ?_
  unfold c116
  refine LI_start wf ?_
  refine W ?_
  refine LS_al rfl fun b1 => ?_
  try (dsimp only [st, setL, AV.cells, List.set_cons_zero, List.set_cons_succ, List.drop_zero, List.drop_succ_cons, List.take_zero, List.take_succ_cons, Nat.zero_add, Nat.add_zero, Nat.reduceAdd, List.cons_append, List.nil_append, List.eraseIdx_cons_zero, List.eraseIdx_cons_succ])
  refine W ?_
  refine RET fun h' HL => ?_
  try dsimp only [oneA]
  exact ⟨rfl, HL.le⟩

theorem plStep_ac (x y : Int) (h : AH) : AC Try.prog 111 [.i .i64 x, .i .i64 y] h (fun r h' => r = .agg (enStep (stepM x y)) ∧ h.le h') := by
  have e1 : (if x < y then x else y) = (if y < x then y else x) := by split <;> split <;> omega
  have e2 : (if y < x then x else y) = (if y > x then y else x) := by split <;> split <;> omega
  refine e111 _ _ fun wf => ?_
  unfold c111
  refine LI_start wf ?_
  refine W ?_
  refine LS_al rfl fun b1 => ?_
  try (dsimp only [st, setL, AV.cells, List.set_cons_zero, List.set_cons_succ, List.drop_zero, List.drop_succ_cons, List.take_zero, List.take_succ_cons, Nat.zero_add, Nat.add_zero, Nat.reduceAdd, List.cons_append, List.nil_append, List.eraseIdx_cons_zero, List.eraseIdx_cons_succ])
  refine W ?_
  refine LS_c0 (fun h' HL wf => l1Least_ac x y h') rfl rfl ?_
  try (dsimp only [st, setL, AV.cells, List.set_cons_zero, List.set_cons_succ, List.drop_zero, List.drop_succ_cons, List.take_zero, List.take_succ_cons, Nat.zero_add, Nat.add_zero, Nat.reduceAdd, List.cons_append, List.nil_append, List.eraseIdx_cons_zero, List.eraseIdx_cons_succ])
  refine W ?_
  refine LS_c0 (fun h' HL wf => l1Most_ac x y h') rfl rfl ?_
  try (dsimp only [st, setL, AV.cells, List.set_cons_zero, List.set_cons_succ, List.drop_zero, List.drop_succ_cons, List.take_zero, List.take_succ_cons, Nat.zero_add, Nat.add_zero, Nat.reduceAdd, List.cons_append, List.nil_append, List.eraseIdx_cons_zero, List.eraseIdx_cons_succ])
  refine W ?_
  refine RET fun h' HL => ?_
  try dsimp only [oneA]
  exact ⟨by rw [e1, e2]; rfl, HL.le⟩

theorem manyC_ac (n : Int) (k : Nat) (b : Nat) (vs : AV) (h : AH) (c0 : h.cell b 0 = some (.i .i64 n)) (c1 : h.cell b 1 = some vs) (hl : lenA vs = some k) (hb0 : -10 ≤ n) (hb1 : n ≤ 1048576) (hk : k ≤ 1048576) :
    AC Try.prog 115 [.p b 0] h (fun r h' => r = .i .i64 (n + k) ∧ h.le h') := by
  refine e115 _ fun wf => ?_
  unfold c115
  refine LI_start wf ?_
  refine W ?_
  refine dz115_0 ?_
  refine WX ?_
  refine W ?_
  refine RET fun h' HL => ?_
  try dsimp only [oneA]
  exact ⟨rfl, HL.le⟩

theorem meTimes_ac (n : Int) (ss : List (Int × Int)) (a1 a2 : Int) (vs vo : AV) (h : AH) (hs : RdG 2 enStep h vs ss) (so : vo.sc = true) (hl : ss.length ≤ 524288) (hb0 : -10 ≤ n) (hb1 : n ≤ 1048576) :
    AC Try.prog 94 [.agg [.i .i64 n, vs, vo], .i .i64 a1, .i .i64 a2] h (fun r h' => ∃ M, (∃ w, r = .tup [.agg [.i .i64 n, w, .ns], .i .i64 (n + ss.length)] ∧ lenA w = some (ss ++ [stepM a1 a2]).length ∧ w.sc = true ∧ M = [.sl w 2 ((ss ++ [stepM a1 a2]).flatMap enStep)]) ∧ Loq h h' M) := by
  have hsl := hs.len
  refine e94 _ _ _ fun wf => ?_
  unfold c94
  refine LI_start wf ?_
  refine W ?_
  refine LS_bxn rfl (sc_cons rfl (sc_cons (rd_sc hs) (sc_cons so rfl))) fun b1 => ?_
  try (dsimp only [st, setL, AV.cells, List.set_cons_zero, List.set_cons_succ, List.drop_zero, List.drop_succ_cons, List.take_zero, List.take_succ_cons, Nat.zero_add, Nat.add_zero, Nat.reduceAdd, List.cons_append, List.nil_append, List.eraseIdx_cons_zero, List.eraseIdx_cons_succ])
  refine W ?_
  refine LS_al rfl fun b6 => ?_
  try (dsimp only [st, setL, AV.cells, List.set_cons_zero, List.set_cons_succ, List.drop_zero, List.drop_succ_cons, List.take_zero, List.take_succ_cons, Nat.zero_add, Nat.add_zero, Nat.reduceAdd, List.cons_append, List.nil_append, List.eraseIdx_cons_zero, List.eraseIdx_cons_succ])
  refine W ?_
  refine LI_post (fun a L => ∃ (b8 : Nat) (w4 : AV), (∃ r : Nat → AV, a = [r 0, r 1, r 2, .p b1 0, r 4, r 5, .p b6 0, r 7, .p b8 0, r 9, r 10, r 11, r 12, r 13, r 14, r 15, r 16, r 17, r 18, r 19, r 20, r 21, r 22, r 23, r 24, r 25, r 26, r 27]) ∧ lenA w4 = some (ss ++ [stepM a1 a2]).length ∧ w4.sc = true ∧ ∀ h', Loq h h' L → Loq h h' [.pt b8 [.i .i64 n, w4, .ns], .sl w4 2 ((ss ++ [stepM a1 a2]).flatMap enStep), .pt b6 [.i .i64 0, .ns, .ns], .pt b1 [.i .i64 n, vs, vo]]) ?_ ?_
  · refine dk94_0 [(b1, [.i .i64 n, vs, vo])] (by simp) ?_
    refine WX ?_
    refine LX_k 0 noG rfl rfl rfl rfl ?_
    try (dsimp only [st, setL, AV.cells, List.set_cons_zero, List.set_cons_succ, List.drop_zero, List.drop_succ_cons, List.take_zero, List.take_succ_cons, Nat.zero_add, Nat.add_zero, Nat.reduceAdd, List.cons_append, List.nil_append, List.eraseIdx_cons_zero, List.eraseIdx_cons_succ])
    refine WX ?_
    refine W ?_
    refine LX_two ?_ ?_
    · refine WX ?_
      refine LX_lt ([] : List (Int × Int)) rfl rfl (by decide) rfl rfl rfl rfl enStep2 rfl rfl noG fun w1 hw1 sw1 => ?_
      try (dsimp only [st, setL, AV.cells, List.set_cons_zero, List.set_cons_succ, List.drop_zero, List.drop_succ_cons, List.take_zero, List.take_succ_cons, Nat.zero_add, Nat.add_zero, Nat.reduceAdd, List.cons_append, List.nil_append, List.eraseIdx_cons_zero, List.eraseIdx_cons_succ])
      refine WX ?_
      refine W ?_
      refine LX_two ?_ ?_
      · refine WX ?_
        refine LX_fK noG (LO_ap0 0 rfl (fun h' HL => hs.le HL.le) enStep2 (by decide) (by simp; omega) (by simp; omega) rfl rfl rfl fun w2 hw2 sw2 => ⟨by simp, ?_⟩)
        try (dsimp only [st, setL, AV.cells, List.set_cons_zero, List.set_cons_succ, List.drop_zero, List.drop_succ_cons, List.take_zero, List.take_succ_cons, Nat.zero_add, Nat.add_zero, Nat.reduceAdd, List.cons_append, List.nil_append, List.eraseIdx_cons_zero, List.eraseIdx_cons_succ])
        refine WX ?_
        refine W ?_
        refine LX_two ?_ ?_
        · refine WX ?_
          refine LX_c0 (fun h' HL wf => plStep_ac a1 a2 h'.frz) rfl rfl noG ?_
          try (dsimp only [st, setL, AV.cells, List.set_cons_zero, List.set_cons_succ, List.drop_zero, List.drop_succ_cons, List.take_zero, List.take_succ_cons, Nat.zero_add, Nat.add_zero, Nat.reduceAdd, List.cons_append, List.nil_append, List.eraseIdx_cons_zero, List.eraseIdx_cons_succ])
          refine WX ?_
          refine W ?_
          refine LX_two ?_ ?_
          · refine WX ?_
            refine LX_lt [stepM a1 a2] rfl rfl (by decide) rfl rfl rfl rfl enStep2 rfl rfl noG fun w3 hw3 sw3 => ?_
            try (dsimp only [st, setL, AV.cells, List.set_cons_zero, List.set_cons_succ, List.drop_zero, List.drop_succ_cons, List.take_zero, List.take_succ_cons, Nat.zero_add, Nat.add_zero, Nat.reduceAdd, List.cons_append, List.nil_append, List.eraseIdx_cons_zero, List.eraseIdx_cons_succ])
            refine WX ?_
            refine W ?_
            refine LX_two ?_ ?_
            · refine WX ?_
              refine LX_fK noG (LO_ap 1 rfl (fun h' HL => HL.rdI 0 rfl enStep2 (by decide)) enStep2 (by decide) (by simp) (by simp; omega) (by simp; omega) rfl rfl rfl fun w4 hw4 sw4 => ⟨by simp, ?_⟩)
              try (dsimp only [st, setL, AV.cells, List.set_cons_zero, List.set_cons_succ, List.drop_zero, List.drop_succ_cons, List.take_zero, List.take_succ_cons, Nat.zero_add, Nat.add_zero, Nat.reduceAdd, List.cons_append, List.nil_append, List.eraseIdx_cons_zero, List.eraseIdx_cons_succ])
              refine WX ?_
              refine W ?_
              refine LX_al (by rfl) noG fun b8 => ?_
              try (dsimp only [st, setL, AV.cells, List.set_cons_zero, List.set_cons_succ, List.drop_zero, List.drop_succ_cons, List.take_zero, List.take_succ_cons, Nat.zero_add, Nat.add_zero, Nat.reduceAdd, List.cons_append, List.nil_append, List.eraseIdx_cons_zero, List.eraseIdx_cons_succ])
              refine WX ?_
              refine W ?_
              refine LX_fK noG (LO_sn 0 rfl rfl rfl (by exact sc_cons rfl (sc_cons sw4 (sc_cons rfl rfl))) rfl rfl ⟨by simp, ?_⟩)
              try (dsimp only [st, setL, AV.cells, List.set_cons_zero, List.set_cons_succ, List.drop_zero, List.drop_succ_cons, List.take_zero, List.take_succ_cons, Nat.zero_add, Nat.add_zero, Nat.reduceAdd, List.cons_append, List.nil_append, List.eraseIdx_cons_zero, List.eraseIdx_cons_succ])
              refine WX ?_
              refine W ?_
              exact ⟨rfl, _, _, exJ rfl, by simpa using hw4, sw4, fun h' HL => HL.sel [0, 2, 3, 4] (by decide)⟩
            · refine WX ?_
              refine LX_al (by rfl) noG fun b8 => ?_
              try (dsimp only [st, setL, AV.cells, List.set_cons_zero, List.set_cons_succ, List.drop_zero, List.drop_succ_cons, List.take_zero, List.take_succ_cons, Nat.zero_add, Nat.add_zero, Nat.reduceAdd, List.cons_append, List.nil_append, List.eraseIdx_cons_zero, List.eraseIdx_cons_succ])
              refine WX ?_
              refine W ?_
              refine LX_fK noG (LO_ap 2 rfl (fun h' HL => HL.rdI 1 rfl enStep2 (by decide)) enStep2 (by decide) (by simp) (by simp; omega) (by simp; omega) rfl rfl rfl fun w4 hw4 sw4 => ⟨by simp, ?_⟩)
              try (dsimp only [st, setL, AV.cells, List.set_cons_zero, List.set_cons_succ, List.drop_zero, List.drop_succ_cons, List.take_zero, List.take_succ_cons, Nat.zero_add, Nat.add_zero, Nat.reduceAdd, List.cons_append, List.nil_append, List.eraseIdx_cons_zero, List.eraseIdx_cons_succ])
              refine WX ?_
              refine W ?_
              refine LX_fK noG (LO_sn 0 rfl rfl rfl (by exact sc_cons rfl (sc_cons sw4 (sc_cons rfl rfl))) rfl rfl ⟨by simp, ?_⟩)
              try (dsimp only [st, setL, AV.cells, List.set_cons_zero, List.set_cons_succ, List.drop_zero, List.drop_succ_cons, List.take_zero, List.take_succ_cons, Nat.zero_add, Nat.add_zero, Nat.reduceAdd, List.cons_append, List.nil_append, List.eraseIdx_cons_zero, List.eraseIdx_cons_succ])
              refine WX ?_
              refine W ?_
              exact ⟨rfl, _, _, exJ rfl, by simpa using hw4, sw4, fun h' HL => HL.sel [0, 2, 3, 4] (by decide)⟩
          · refine WX ?_
            refine LX_al (by rfl) noG fun b8 => ?_
            try (dsimp only [st, setL, AV.cells, List.set_cons_zero, List.set_cons_succ, List.drop_zero, List.drop_succ_cons, List.take_zero, List.take_succ_cons, Nat.zero_add, Nat.add_zero, Nat.reduceAdd, List.cons_append, List.nil_append, List.eraseIdx_cons_zero, List.eraseIdx_cons_succ])
            refine WX ?_
            refine W ?_
            refine LX_lt [stepM a1 a2] rfl rfl (by decide) rfl rfl rfl rfl enStep2 rfl rfl noG fun w3 hw3 sw3 => ?_
            try (dsimp only [st, setL, AV.cells, List.set_cons_zero, List.set_cons_succ, List.drop_zero, List.drop_succ_cons, List.take_zero, List.take_succ_cons, Nat.zero_add, Nat.add_zero, Nat.reduceAdd, List.cons_append, List.nil_append, List.eraseIdx_cons_zero, List.eraseIdx_cons_succ])
            refine WX ?_
            refine W ?_
            refine LX_fK noG (LO_ap 2 rfl (fun h' HL => HL.rdI 0 rfl enStep2 (by decide)) enStep2 (by decide) (by simp) (by simp; omega) (by simp; omega) rfl rfl rfl fun w4 hw4 sw4 => ⟨by simp, ?_⟩)
            try (dsimp only [st, setL, AV.cells, List.set_cons_zero, List.set_cons_succ, List.drop_zero, List.drop_succ_cons, List.take_zero, List.take_succ_cons, Nat.zero_add, Nat.add_zero, Nat.reduceAdd, List.cons_append, List.nil_append, List.eraseIdx_cons_zero, List.eraseIdx_cons_succ])
            refine WX ?_
            refine W ?_
            refine LX_fK noG (LO_sn 1 rfl rfl rfl (by exact sc_cons rfl (sc_cons sw4 (sc_cons rfl rfl))) rfl rfl ⟨by simp, ?_⟩)
            try (dsimp only [st, setL, AV.cells, List.set_cons_zero, List.set_cons_succ, List.drop_zero, List.drop_succ_cons, List.take_zero, List.take_succ_cons, Nat.zero_add, Nat.add_zero, Nat.reduceAdd, List.cons_append, List.nil_append, List.eraseIdx_cons_zero, List.eraseIdx_cons_succ])
            refine WX ?_
            refine W ?_
            exact ⟨rfl, _, _, exJ rfl, by simpa using hw4, sw4, fun h' HL => HL.sel [1, 2, 3, 4] (by decide)⟩
        · refine WX ?_
          refine LX_al (by rfl) noG fun b8 => ?_
          try (dsimp only [st, setL, AV.cells, List.set_cons_zero, List.set_cons_succ, List.drop_zero, List.drop_succ_cons, List.take_zero, List.take_succ_cons, Nat.zero_add, Nat.add_zero, Nat.reduceAdd, List.cons_append, List.nil_append, List.eraseIdx_cons_zero, List.eraseIdx_cons_succ])
          refine WX ?_
          refine W ?_
          refine LX_c0 (fun h' HL wf => plStep_ac a1 a2 h'.frz) rfl rfl noG ?_
          try (dsimp only [st, setL, AV.cells, List.set_cons_zero, List.set_cons_succ, List.drop_zero, List.drop_succ_cons, List.take_zero, List.take_succ_cons, Nat.zero_add, Nat.add_zero, Nat.reduceAdd, List.cons_append, List.nil_append, List.eraseIdx_cons_zero, List.eraseIdx_cons_succ])
          refine WX ?_
          refine W ?_
          refine LX_lt [stepM a1 a2] rfl rfl (by decide) rfl rfl rfl rfl enStep2 rfl rfl noG fun w3 hw3 sw3 => ?_
          try (dsimp only [st, setL, AV.cells, List.set_cons_zero, List.set_cons_succ, List.drop_zero, List.drop_succ_cons, List.take_zero, List.take_succ_cons, Nat.zero_add, Nat.add_zero, Nat.reduceAdd, List.cons_append, List.nil_append, List.eraseIdx_cons_zero, List.eraseIdx_cons_succ])
          refine WX ?_
          refine W ?_
          refine LX_fK noG (LO_ap 2 rfl (fun h' HL => HL.rdI 0 rfl enStep2 (by decide)) enStep2 (by decide) (by simp) (by simp; omega) (by simp; omega) rfl rfl rfl fun w4 hw4 sw4 => ⟨by simp, ?_⟩)
          try (dsimp only [st, setL, AV.cells, List.set_cons_zero, List.set_cons_succ, List.drop_zero, List.drop_succ_cons, List.take_zero, List.take_succ_cons, Nat.zero_add, Nat.add_zero, Nat.reduceAdd, List.cons_append, List.nil_append, List.eraseIdx_cons_zero, List.eraseIdx_cons_succ])
          refine WX ?_
          refine W ?_
          refine LX_fK noG (LO_sn 1 rfl rfl rfl (by exact sc_cons rfl (sc_cons sw4 (sc_cons rfl rfl))) rfl rfl ⟨by simp, ?_⟩)
          try (dsimp only [st, setL, AV.cells, List.set_cons_zero, List.set_cons_succ, List.drop_zero, List.drop_succ_cons, List.take_zero, List.take_succ_cons, Nat.zero_add, Nat.add_zero, Nat.reduceAdd, List.cons_append, List.nil_append, List.eraseIdx_cons_zero, List.eraseIdx_cons_succ])
          refine WX ?_
          refine W ?_
          exact ⟨rfl, _, _, exJ rfl, by simpa using hw4, sw4, fun h' HL => HL.sel [1, 2, 3, 4] (by decide)⟩
      · refine WX ?_
        refine LX_al (by rfl) noG fun b8 => ?_
        try (dsimp only [st, setL, AV.cells, List.set_cons_zero, List.set_cons_succ, List.drop_zero, List.drop_succ_cons, List.take_zero, List.take_succ_cons, Nat.zero_add, Nat.add_zero, Nat.reduceAdd, List.cons_append, List.nil_append, List.eraseIdx_cons_zero, List.eraseIdx_cons_succ])
        refine WX ?_
        refine W ?_
        refine LX_fK noG (LO_ap0 1 rfl (fun h' HL => hs.le HL.le) enStep2 (by decide) (by simp; omega) (by simp; omega) rfl rfl rfl fun w2 hw2 sw2 => ⟨by simp, ?_⟩)
        try (dsimp only [st, setL, AV.cells, List.set_cons_zero, List.set_cons_succ, List.drop_zero, List.drop_succ_cons, List.take_zero, List.take_succ_cons, Nat.zero_add, Nat.add_zero, Nat.reduceAdd, List.cons_append, List.nil_append, List.eraseIdx_cons_zero, List.eraseIdx_cons_succ])
        refine WX ?_
        refine W ?_
        refine LX_c0 (fun h' HL wf => plStep_ac a1 a2 h'.frz) rfl rfl noG ?_
        try (dsimp only [st, setL, AV.cells, List.set_cons_zero, List.set_cons_succ, List.drop_zero, List.drop_succ_cons, List.take_zero, List.take_succ_cons, Nat.zero_add, Nat.add_zero, Nat.reduceAdd, List.cons_append, List.nil_append, List.eraseIdx_cons_zero, List.eraseIdx_cons_succ])
        refine WX ?_
        refine W ?_
        refine LX_lt [stepM a1 a2] rfl rfl (by decide) rfl rfl rfl rfl enStep2 rfl rfl noG fun w3 hw3 sw3 => ?_
        try (dsimp only [st, setL, AV.cells, List.set_cons_zero, List.set_cons_succ, List.drop_zero, List.drop_succ_cons, List.take_zero, List.take_succ_cons, Nat.zero_add, Nat.add_zero, Nat.reduceAdd, List.cons_append, List.nil_append, List.eraseIdx_cons_zero, List.eraseIdx_cons_succ])
        refine WX ?_
        refine W ?_
        refine LX_fK noG (LO_ap 2 rfl (fun h' HL => HL.rdI 0 rfl enStep2 (by decide)) enStep2 (by decide) (by simp) (by simp; omega) (by simp; omega) rfl rfl rfl fun w4 hw4 sw4 => ⟨by simp, ?_⟩)
        try (dsimp only [st, setL, AV.cells, List.set_cons_zero, List.set_cons_succ, List.drop_zero, List.drop_succ_cons, List.take_zero, List.take_succ_cons, Nat.zero_add, Nat.add_zero, Nat.reduceAdd, List.cons_append, List.nil_append, List.eraseIdx_cons_zero, List.eraseIdx_cons_succ])
        refine WX ?_
        refine W ?_
        refine LX_fK noG (LO_sn 1 rfl rfl rfl (by exact sc_cons rfl (sc_cons sw4 (sc_cons rfl rfl))) rfl rfl ⟨by simp, ?_⟩)
        try (dsimp only [st, setL, AV.cells, List.set_cons_zero, List.set_cons_succ, List.drop_zero, List.drop_succ_cons, List.take_zero, List.take_succ_cons, Nat.zero_add, Nat.add_zero, Nat.reduceAdd, List.cons_append, List.nil_append, List.eraseIdx_cons_zero, List.eraseIdx_cons_succ])
        refine WX ?_
        refine W ?_
        exact ⟨rfl, _, _, exJ rfl, by simpa using hw4, sw4, fun h' HL => HL.sel [1, 2, 3, 4] (by decide)⟩
    · refine WX ?_
      refine LX_al (by rfl) noG fun b8 => ?_
      try (dsimp only [st, setL, AV.cells, List.set_cons_zero, List.set_cons_succ, List.drop_zero, List.drop_succ_cons, List.take_zero, List.take_succ_cons, Nat.zero_add, Nat.add_zero, Nat.reduceAdd, List.cons_append, List.nil_append, List.eraseIdx_cons_zero, List.eraseIdx_cons_succ])
      refine WX ?_
      refine W ?_
      refine LX_lt ([] : List (Int × Int)) rfl rfl (by decide) rfl rfl rfl rfl enStep2 rfl rfl noG fun w1 hw1 sw1 => ?_
      try (dsimp only [st, setL, AV.cells, List.set_cons_zero, List.set_cons_succ, List.drop_zero, List.drop_succ_cons, List.take_zero, List.take_succ_cons, Nat.zero_add, Nat.add_zero, Nat.reduceAdd, List.cons_append, List.nil_append, List.eraseIdx_cons_zero, List.eraseIdx_cons_succ])
      refine WX ?_
      refine W ?_
      refine LX_fK noG (LO_ap0 0 rfl (fun h' HL => hs.le HL.le) enStep2 (by decide) (by simp; omega) (by simp; omega) rfl rfl rfl fun w2 hw2 sw2 => ⟨by simp, ?_⟩)
      try (dsimp only [st, setL, AV.cells, List.set_cons_zero, List.set_cons_succ, List.drop_zero, List.drop_succ_cons, List.take_zero, List.take_succ_cons, Nat.zero_add, Nat.add_zero, Nat.reduceAdd, List.cons_append, List.nil_append, List.eraseIdx_cons_zero, List.eraseIdx_cons_succ])
      refine WX ?_
      refine W ?_
      refine LX_c0 (fun h' HL wf => plStep_ac a1 a2 h'.frz) rfl rfl noG ?_
      try (dsimp only [st, setL, AV.cells, List.set_cons_zero, List.set_cons_succ, List.drop_zero, List.drop_succ_cons, List.take_zero, List.take_succ_cons, Nat.zero_add, Nat.add_zero, Nat.reduceAdd, List.cons_append, List.nil_append, List.eraseIdx_cons_zero, List.eraseIdx_cons_succ])
      refine WX ?_
      refine W ?_
      refine LX_lt [stepM a1 a2] rfl rfl (by decide) rfl rfl rfl rfl enStep2 rfl rfl noG fun w3 hw3 sw3 => ?_
      try (dsimp only [st, setL, AV.cells, List.set_cons_zero, List.set_cons_succ, List.drop_zero, List.drop_succ_cons, List.take_zero, List.take_succ_cons, Nat.zero_add, Nat.add_zero, Nat.reduceAdd, List.cons_append, List.nil_append, List.eraseIdx_cons_zero, List.eraseIdx_cons_succ])
      refine WX ?_
      refine W ?_
      refine LX_fK noG (LO_ap 1 rfl (fun h' HL => HL.rdI 0 rfl enStep2 (by decide)) enStep2 (by decide) (by simp) (by simp; omega) (by simp; omega) rfl rfl rfl fun w4 hw4 sw4 => ⟨by simp, ?_⟩)
      try (dsimp only [st, setL, AV.cells, List.set_cons_zero, List.set_cons_succ, List.drop_zero, List.drop_succ_cons, List.take_zero, List.take_succ_cons, Nat.zero_add, Nat.add_zero, Nat.reduceAdd, List.cons_append, List.nil_append, List.eraseIdx_cons_zero, List.eraseIdx_cons_succ])
      refine WX ?_
      refine W ?_
      refine LX_fK noG (LO_sn 2 rfl rfl rfl (by exact sc_cons rfl (sc_cons sw4 (sc_cons rfl rfl))) rfl rfl ⟨by simp, ?_⟩)
      try (dsimp only [st, setL, AV.cells, List.set_cons_zero, List.set_cons_succ, List.drop_zero, List.drop_succ_cons, List.take_zero, List.take_succ_cons, Nat.zero_add, Nat.add_zero, Nat.reduceAdd, List.cons_append, List.nil_append, List.eraseIdx_cons_zero, List.eraseIdx_cons_succ])
      refine WX ?_
      refine W ?_
      exact ⟨rfl, _, _, exJ rfl, by simpa using hw4, sw4, fun h' HL => HL.sel [2, 1, 3, 4] (by decide)⟩
  · rintro _ L ⟨b8, w4, ⟨r, rfl⟩, l4, s4, hL⟩
    refine W ?_
    refine LI_conv hL ?_
    refine dk94_1 [(b1, [.i .i64 n, vs, vo])] (by simp) ?_
    refine WX ?_
    refine LX_k 0 noG rfl rfl rfl rfl ?_
    try (dsimp only [st, setL, AV.cells, List.set_cons_zero, List.set_cons_succ, List.drop_zero, List.drop_succ_cons, List.take_zero, List.take_succ_cons, Nat.zero_add, Nat.add_zero, Nat.reduceAdd, List.cons_append, List.nil_append, List.eraseIdx_cons_zero, List.eraseIdx_cons_succ])
    refine WX ?_
    refine W ?_
    refine LX_two ?_ ?_
    · refine WX ?_
      refine LX_l1e 3 noG rfl rfl rfl ?_
      try (dsimp only [st, setL, AV.cells, List.set_cons_zero, List.set_cons_succ, List.drop_zero, List.drop_succ_cons, List.take_zero, List.take_succ_cons, Nat.zero_add, Nat.add_zero, Nat.reduceAdd, List.cons_append, List.nil_append, List.eraseIdx_cons_zero, List.eraseIdx_cons_succ])
      refine WX ?_
      refine W ?_
      refine LX_fK noG (LO_sn 2 rfl rfl rfl (by exact sc_cons rfl (sc_cons s4 (sc_cons rfl rfl))) rfl rfl ⟨by simp, ?_⟩)
      try (dsimp only [st, setL, AV.cells, List.set_cons_zero, List.set_cons_succ, List.drop_zero, List.drop_succ_cons, List.take_zero, List.take_succ_cons, Nat.zero_add, Nat.add_zero, Nat.reduceAdd, List.cons_append, List.nil_append, List.eraseIdx_cons_zero, List.eraseIdx_cons_succ])
      refine WX ?_
      refine W ?_
      refine RET fun h' HL => ?_
      try dsimp only [oneA]
      exact ⟨_, ⟨w4, rfl, l4, s4, rfl⟩, HL.sel [1] (by decide)⟩
    · refine WX ?_
      refine LX_fK noG (LO_sn 2 rfl rfl rfl (by exact sc_cons rfl (sc_cons s4 (sc_cons rfl rfl))) rfl rfl ⟨by simp, ?_⟩)
      try (dsimp only [st, setL, AV.cells, List.set_cons_zero, List.set_cons_succ, List.drop_zero, List.drop_succ_cons, List.take_zero, List.take_succ_cons, Nat.zero_add, Nat.add_zero, Nat.reduceAdd, List.cons_append, List.nil_append, List.eraseIdx_cons_zero, List.eraseIdx_cons_succ])
      refine WX ?_
      refine W ?_
      refine LX_l1e 3 noG rfl rfl rfl ?_
      try (dsimp only [st, setL, AV.cells, List.set_cons_zero, List.set_cons_succ, List.drop_zero, List.drop_succ_cons, List.take_zero, List.take_succ_cons, Nat.zero_add, Nat.add_zero, Nat.reduceAdd, List.cons_append, List.nil_append, List.eraseIdx_cons_zero, List.eraseIdx_cons_succ])
      refine WX ?_
      refine W ?_
      refine RET fun h' HL => ?_
      try dsimp only [oneA]
      exact ⟨_, ⟨w4, rfl, l4, s4, rfl⟩, HL.sel [1] (by decide)⟩

theorem meEnd_ac (n : Int) (ss : List (Int × Int)) (x : Int) (vs vo : AV) (h : AH) (hs : RdG 2 enStep h vs ss) (so : vo.sc = true) :
    AC Try.prog 95 [.agg [.i .i64 n, vs, vo], .i .i64 x] h (fun r h' => ∃ M, (∃ wo, r = .agg [.i .i64 n, vs, wo] ∧ lenA wo = some 1 ∧ wo.sc = true ∧ M = [.sl wo 1 ([x].flatMap enI)]) ∧ Loq h h' M) := by
  refine e95 _ _ fun wf => ?_
  unfold c95
  refine LI_start wf ?_
  refine W ?_
  refine LS_bxn rfl (sc_cons rfl (sc_cons (rd_sc hs) (sc_cons so rfl))) fun b1 => ?_
  try (dsimp only [st, setL, AV.cells, List.set_cons_zero, List.set_cons_succ, List.drop_zero, List.drop_succ_cons, List.take_zero, List.take_succ_cons, Nat.zero_add, Nat.add_zero, Nat.reduceAdd, List.cons_append, List.nil_append, List.eraseIdx_cons_zero, List.eraseIdx_cons_succ])
  refine W ?_
  refine LS_al rfl fun b2 => ?_
  try (dsimp only [st, setL, AV.cells, List.set_cons_zero, List.set_cons_succ, List.drop_zero, List.drop_succ_cons, List.take_zero, List.take_succ_cons, Nat.zero_add, Nat.add_zero, Nat.reduceAdd, List.cons_append, List.nil_append, List.eraseIdx_cons_zero, List.eraseIdx_cons_succ])
  refine W ?_
  refine LS_lt [x] rfl rfl (by decide) rfl rfl rfl rfl enI1 rfl rfl fun w3 hw3 sw3 => ?_
  try (dsimp only [st, setL, AV.cells, List.set_cons_zero, List.set_cons_succ, List.drop_zero, List.drop_succ_cons, List.take_zero, List.take_succ_cons, Nat.zero_add, Nat.add_zero, Nat.reduceAdd, List.cons_append, List.nil_append, List.eraseIdx_cons_zero, List.eraseIdx_cons_succ])
  refine W ?_
  refine RET fun h' HL => ?_
  try dsimp only [oneA]
  exact ⟨_, ⟨w3, rfl, hw3, sw3, rfl⟩, HL.sel [0] (by decide)⟩

def zeroP : AV := .agg [.i .i64 0, .ns, .ns]

theorem told_t (p : PlanM) (v : AV) (h : AH) (hR : PlR h v p) (hw : PSm p) (hk : planOk p = true) : AC Try.prog 68 [v] h (fun r h' => r = .tup [v, .b true] ∧ h.le h') := by
  have hR0 := hR
  obtain ⟨vs, vo, rfl, hs, ho⟩ := hR
  refine e68 _ fun wf => ?_
  unfold c68
  refine LI_start wf ?_
  refine W ?_
  refine LS_bxn rfl (sc_cons rfl (sc_cons (rd_sc hs) (sc_cons (rd_sc ho) rfl))) fun b1 => ?_
  try (dsimp only [st, setL, AV.cells, List.set_cons_zero, List.set_cons_succ, List.drop_zero, List.drop_succ_cons, List.take_zero, List.take_succ_cons, Nat.zero_add, Nat.add_zero, Nat.reduceAdd, List.cons_append, List.nil_append, List.eraseIdx_cons_zero, List.eraseIdx_cons_succ])
  refine W ?_
  refine LS_al rfl fun b2 => ?_
  try (dsimp only [st, setL, AV.cells, List.set_cons_zero, List.set_cons_succ, List.drop_zero, List.drop_succ_cons, List.take_zero, List.take_succ_cons, Nat.zero_add, Nat.add_zero, Nat.reduceAdd, List.cons_append, List.nil_append, List.eraseIdx_cons_zero, List.eraseIdx_cons_succ])
  refine W ?_
  refine LS_c0 (fun h' HL wf => isPlan_ac p _ h' (hR0.le HL.le) hw) rfl rfl ?_
  try (dsimp only [st, setL, AV.cells, List.set_cons_zero, List.set_cons_succ, List.drop_zero, List.drop_succ_cons, List.take_zero, List.take_succ_cons, Nat.zero_add, Nat.add_zero, Nat.reduceAdd, List.cons_append, List.nil_append, List.eraseIdx_cons_zero, List.eraseIdx_cons_succ])
  refine W ?_
  first | (refine LS_gtnH rfl (by rw [hk]; rfl) ?_; intro hg; try (dsimp only [st, setL, AV.cells, List.set_cons_zero, List.set_cons_succ, List.drop_zero, List.drop_succ_cons, List.take_zero, List.take_succ_cons, Nat.zero_add, Nat.add_zero, Nat.reduceAdd, List.cons_append, List.nil_append, List.eraseIdx_cons_zero, List.eraseIdx_cons_succ])) | (refine LS_gfnH rfl (by rw [hk]; rfl) ?_; intro hg; try (dsimp only [st, setL, AV.cells, List.set_cons_zero, List.set_cons_succ, List.drop_zero, List.drop_succ_cons, List.take_zero, List.take_succ_cons, Nat.zero_add, Nat.add_zero, Nat.reduceAdd, List.cons_append, List.nil_append, List.eraseIdx_cons_zero, List.eraseIdx_cons_succ])) | (refine LI_cond_fH rfl (by rw [hk]; rfl) ?_; intro hg)
  refine W ?_
  refine RET fun h' HL => ?_
  try dsimp only [oneA]
  exact ⟨rfl, HL.le⟩

theorem told_f (p : PlanM) (v : AV) (h : AH) (hR : PlR h v p) (hw : PSm p) (hk : planOk p = false) : AC Try.prog 68 [v] h (fun r h' => r = .tup [zeroP, .b false] ∧ h.le h') := by
  have hR0 := hR
  obtain ⟨vs, vo, rfl, hs, ho⟩ := hR
  refine e68 _ fun wf => ?_
  unfold c68
  refine LI_start wf ?_
  refine W ?_
  refine LS_bxn rfl (sc_cons rfl (sc_cons (rd_sc hs) (sc_cons (rd_sc ho) rfl))) fun b1 => ?_
  try (dsimp only [st, setL, AV.cells, List.set_cons_zero, List.set_cons_succ, List.drop_zero, List.drop_succ_cons, List.take_zero, List.take_succ_cons, Nat.zero_add, Nat.add_zero, Nat.reduceAdd, List.cons_append, List.nil_append, List.eraseIdx_cons_zero, List.eraseIdx_cons_succ])
  refine W ?_
  refine LS_al rfl fun b2 => ?_
  try (dsimp only [st, setL, AV.cells, List.set_cons_zero, List.set_cons_succ, List.drop_zero, List.drop_succ_cons, List.take_zero, List.take_succ_cons, Nat.zero_add, Nat.add_zero, Nat.reduceAdd, List.cons_append, List.nil_append, List.eraseIdx_cons_zero, List.eraseIdx_cons_succ])
  refine W ?_
  refine LS_c0 (fun h' HL wf => isPlan_ac p _ h' (hR0.le HL.le) hw) rfl rfl ?_
  try (dsimp only [st, setL, AV.cells, List.set_cons_zero, List.set_cons_succ, List.drop_zero, List.drop_succ_cons, List.take_zero, List.take_succ_cons, Nat.zero_add, Nat.add_zero, Nat.reduceAdd, List.cons_append, List.nil_append, List.eraseIdx_cons_zero, List.eraseIdx_cons_succ])
  refine W ?_
  first | (refine LS_gyH rfl (by rw [hk]; rfl) ?_; intro hg) | (refine LI_cond_tH rfl (by rw [hk]; rfl) ?_; intro hg)
  refine W ?_
  refine RET fun h' HL => ?_
  try dsimp only [oneA]
  exact ⟨rfl, HL.le⟩

theorem multiply_ac (n : Int) (ss : List (Int × Int)) (vs vo : AV) (x y : Int) (bm : Nat) (h0 h : AH) (L : List It) (HL : Loq h0 h (.pt bm [.i .i64 n, vs, vo] :: .sl vs 2 (ss.flatMap enStep) :: L)) (hl : ss.length ≤ 524288) (hb0 : -10 ≤ n) (hb1 : n ≤ 1048576) :
    AC Try.prog 67 [.p bm 0, .i .i64 x, .i .i64 y] h (fun r h' => ∃ M, (∃ w, r = .i .i64 (n + ss.length) ∧ lenA w = some (ss ++ [stepM x y]).length ∧ w.sc = true ∧ M = .pt bm [.i .i64 n, w, vo] :: .sl w 2 ((ss ++ [stepM x y]).flatMap enStep) :: L) ∧ Loq h0 h' M) := by
  have hln : (ss ++ [stepM x y]).length = ss.length + 1 := by simp
  refine e67 _ _ _ fun wf => ?_
  unfold c67
  refine LI_startL HL ?_
  refine W ?_
  refine dz67_0 ?_
  refine WX ?_
  refine W ?_
  refine LX_c0 (fun h' HL wf => step_ac x y h'.frz) rfl rfl noG ?_
  try (dsimp only [st, setL, AV.cells, List.set_cons_zero, List.set_cons_succ, List.drop_zero, List.drop_succ_cons, List.take_zero, List.take_succ_cons, Nat.zero_add, Nat.add_zero, Nat.reduceAdd, List.cons_append, List.nil_append, List.eraseIdx_cons_zero, List.eraseIdx_cons_succ])
  refine WX ?_
  refine W ?_
  refine LX_lt [stepM x y] rfl rfl (by decide) rfl rfl rfl rfl enStep2 rfl rfl noG fun w1 hw1 sw1 => ?_
  try (dsimp only [st, setL, AV.cells, List.set_cons_zero, List.set_cons_succ, List.drop_zero, List.drop_succ_cons, List.take_zero, List.take_succ_cons, Nat.zero_add, Nat.add_zero, Nat.reduceAdd, List.cons_append, List.nil_append, List.eraseIdx_cons_zero, List.eraseIdx_cons_succ])
  refine WX ?_
  refine W ?_
  refine LX_f noG (LO_ap 2 rfl (fun h' HL => HL.rdI 0 rfl enStep2 (by decide)) enStep2 (by decide) (by simp) (by simp; omega) (by simp; omega) rfl rfl rfl fun w2 hw2 sw2 => ?_)
  try (dsimp only [st, setL, AV.cells, List.set_cons_zero, List.set_cons_succ, List.drop_zero, List.drop_succ_cons, List.take_zero, List.take_succ_cons, Nat.zero_add, Nat.add_zero, Nat.reduceAdd, List.cons_append, List.nil_append, List.eraseIdx_cons_zero, List.eraseIdx_cons_succ])
  refine WX ?_
  refine W ?_
  refine LS_c0 (fun h' HL wf => manyC_ac n _ bm w2 h' (HL.cellP 1 rfl rfl) (HL.cellP 1 rfl rfl) hw2 hb0 hb1 (by simp; omega)) rfl rfl ?_
  try (dsimp only [st, setL, AV.cells, List.set_cons_zero, List.set_cons_succ, List.drop_zero, List.drop_succ_cons, List.take_zero, List.take_succ_cons, Nat.zero_add, Nat.add_zero, Nat.reduceAdd, List.cons_append, List.nil_append, List.eraseIdx_cons_zero, List.eraseIdx_cons_succ])
  refine W ?_
  refine RET fun h' HL => ?_
  try dsimp only [oneA]
  exact ⟨_, ⟨w2, by rw [hln]; congr 1; omega, hw2, sw2, rfl⟩, HL.tail⟩

theorem makerPlan_ac (n : Int) (vs vo vq : AV) (bm : Nat) (h0 h : AH) (L : List It) (HL : Loq h0 h (.pt bm [.i .i64 n, vs, vo] :: L)) (svs : vs.sc = true) (svq : vq.sc = true) :
    AC Try.prog 69 [.p bm 0, vq] h (fun r h' => ∃ M, (r = .agg [.i .i64 n, vs, vq] ∧ M = .pt bm [.i .i64 n, vs, vq] :: L) ∧ Loq h0 h' M) := by
  refine e69 _ _ fun wf => ?_
  unfold c69
  refine LI_startL HL ?_
  refine W ?_
  refine LS_al rfl fun b1 => ?_
  try (dsimp only [st, setL, AV.cells, List.set_cons_zero, List.set_cons_succ, List.drop_zero, List.drop_succ_cons, List.take_zero, List.take_succ_cons, Nat.zero_add, Nat.add_zero, Nat.reduceAdd, List.cons_append, List.nil_append, List.eraseIdx_cons_zero, List.eraseIdx_cons_succ])
  refine W ?_
  refine RET fun h' HL => ?_
  try dsimp only [oneA]
  exact ⟨_, ⟨rfl, rfl⟩, HL.tail⟩

theorem newMaker_ac (n : Int) (h : AH) : AC Try.prog 64 [.i .i64 n] h (fun r h' => ∃ M, (∃ b, r = .p b 0 ∧ M = [.pt b [.i .i64 n, .ns, .ns]]) ∧ Loq h h' M) := by
  refine e64 _ fun wf => ?_
  unfold c64
  refine LI_start wf ?_
  refine W ?_
  refine LS_bxn rfl rfl fun b1 => ?_
  try (dsimp only [st, setL, AV.cells, List.set_cons_zero, List.set_cons_succ, List.drop_zero, List.drop_succ_cons, List.take_zero, List.take_succ_cons, Nat.zero_add, Nat.add_zero, Nat.reduceAdd, List.cons_append, List.nil_append, List.eraseIdx_cons_zero, List.eraseIdx_cons_succ])
  refine W ?_
  refine RET fun h' HL => ?_
  try dsimp only [oneA]
  exact ⟨_, ⟨b1, rfl, rfl⟩, HL⟩

/-- A plan handed back, and whether. -/
def TupP (q : PlanM) (ok : Bool) (r : AV) (M : List It) : Prop := ∃ ws wo, r = .tup [.agg [.i .i64 q.n, ws, wo], .b ok] ∧ lenA ws = some q.steps.length ∧ ws.sc = true ∧ lenA wo = some q.outs.length ∧ wo.sc = true ∧ M = [.sl ws 2 (q.steps.flatMap enStep), .sl wo 1 (q.outs.flatMap enI)]

theorem TupP.none {h0 h : AH} {L : List It} (H : Loq h0 h L) : ∃ M, TupP emptyPlan false (.tup [zeroP, .b false]) M ∧ Loq h0 h M := ⟨_, ⟨.ns, .ns, rfl, rfl, rfl, rfl, rfl, rfl⟩, loq_ns (loq_ns (H.sub (List.nil_sublist _)) 1) 2⟩

def okS (ss : List (Int × Int)) : Prop := ∀ s ∈ ss, 0 ≤ s.1 ∧ s.1 ≤ 4096 ∧ 0 ≤ s.2 ∧ s.2 ≤ 4096

theorem stepM_bd {x y : Int} (h1 : 0 ≤ x ∧ x ≤ 4096) (h2 : 0 ≤ y ∧ y ≤ 4096) : 0 ≤ (stepM x y).1 ∧ (stepM x y).1 ≤ 4096 ∧ 0 ≤ (stepM x y).2 ∧ (stepM x y).2 ≤ 4096 := by
  unfold stepM
  refine ⟨?_, ?_, ?_, ?_⟩ <;> (dsimp only; split <;> omega)

theorem okS_snoc {ss : List (Int × Int)} {x y : Int} (h : okS ss) (h1 : 0 ≤ x ∧ x ≤ 4096) (h2 : 0 ≤ y ∧ y ≤ 4096) : okS (ss ++ [stepM x y]) := by
  intro s hs
  rcases List.mem_append.1 hs with hs | hs
  · exact h s hs
  · rw [List.mem_singleton.1 hs]; exact stepM_bd h1 h2

theorem inI_of_bd {x : Int} (h : 0 ≤ x ∧ x ≤ 4096) : inI x := by unfold inI; omega

/-! ### Binary plans from the right -/
theorem isNumber_ac (n : Int) (h : AH) : AC Try.prog 61 [.i .i64 n] h (fun v h' => v = .b (decide (1 ≤ n ∧ n ≤ 1000000)) ∧ h.le h') := by
  refine e61 _ fun wf => ?_
  unfold c61
  refine LI_start wf ?_
  refine W ?_
  refine LS_c0' (fun h' HL wf => in_ac n 1 1000000 h') rfl rfl ?_
  try (dsimp only [st, setL, AV.cells, List.set_cons_zero, List.set_cons_succ, List.drop_zero, List.drop_succ_cons, List.take_zero, List.take_succ_cons, Nat.zero_add, Nat.add_zero, Nat.reduceAdd, List.cons_append, List.nil_append, List.eraseIdx_cons_zero, List.eraseIdx_cons_succ])
  refine W ?_
  refine RET fun h' HL => ?_
  try dsimp only [oneA]
  exact ⟨rfl, HL.le⟩

theorem chNumber_ac (n : Int) (h : AH) : AC Try.prog 56 [.i .i64 n] h (fun v h' => v = .b (decide (1 ≤ n ∧ n ≤ 1000000)) ∧ h.le h') := by
  refine e56 _ fun wf => ?_
  unfold c56
  refine LI_start wf ?_
  refine W ?_
  refine LS_c0' (fun h' HL wf => l1In_ac n 1 1000000 h') rfl rfl ?_
  try (dsimp only [st, setL, AV.cells, List.set_cons_zero, List.set_cons_succ, List.drop_zero, List.drop_succ_cons, List.take_zero, List.take_succ_cons, Nat.zero_add, Nat.add_zero, Nat.reduceAdd, List.cons_append, List.nil_append, List.eraseIdx_cons_zero, List.eraseIdx_cons_succ])
  refine W ?_
  refine RET fun h' HL => ?_
  try dsimp only [oneA]
  exact ⟨rfl, HL.le⟩

def dig2 (n : Nat) : List Int := if h : n = 0 then [] else ((n % 2 : Nat) : Int) :: dig2 (n / 2)
termination_by n
decreasing_by omega

theorem dig2_pos {e : Int} (h : 0 < e) : dig2 e.toNat = e.tmod 2 :: dig2 (e.tdiv 2).toNat := by
  rw [dig2, dif_neg (by omega), Int.tmod_eq_emod_of_nonneg (by omega), Int.tdiv_eq_ediv_of_nonneg (by omega)]
  congr 1
  · omega
  · congr 1; omega

theorem dig2_nil {e : Int} (h : e ≤ 0) : dig2 e.toNat = [] := by rw [dig2, dif_pos (by omega)]

theorem dig2_len : ∀ (k n : Nat), n < 2 ^ k → (dig2 n).length ≤ k
  | 0, n, h => by rw [dig2, dif_pos (by omega)]; simp
  | k + 1, n, h => by
    rw [dig2]
    split
    · simp
    · have := dig2_len k (n / 2) (by rw [Nat.pow_succ] at h; omega)
      simp only [List.length_cons]; omega

theorem meDigits_ac (n : Int) (h : AH) (h0' : 0 ≤ n) (h1 : n ≤ 1000000) :
    AC Try.prog 124 [.i .i64 n, .i .i64 2] h (fun r h' => AL.Own h 1 enI h' r (dig2 n.toNat)) := by
  have hlen := dig2_len 20 n.toNat (by omega)
  refine e124 _ _ fun wf => ?_
  unfold c124
  refine LI_start wf ?_
  refine W ?_
  refine LIL_nl (k := 1) ?_
  refine LIL_ind (fun m a L => ∃ (x : Int) (o : AV) (e : List Int), (∃ r : Nat → AV, a = [.i .i64 x, .i .i64 2, r 2, r 3, r 4, o, r 6, r 7, r 8, r 9, r 10, r 11, r 12, r 13, r 14, r 15, r 16, r 17]) ∧ L = [.sl o 1 (e.flatMap enI)] ∧ 0 ≤ x ∧ x ≤ 1000000 ∧ (x : Int) ≤ m ∧ dig2 n.toNat = e ++ dig2 x.toNat)
    n.toNat ⟨n, _, [], exJ rfl, rfl, by omega, by omega, by omega, rfl⟩ ?_
  rintro m a L ⟨x, o, e, ⟨r, rfl⟩, rfl, hx0, hx1, hxm, heq⟩ IH
  have hel : e.length ≤ 20 := by rw [heq] at hlen; simp only [List.length_append] at hlen; omega
  refine W ?_
  (first | refine LS_gt rfl ?_ ?_ | refine LS_gf rfl ?_ ?_ | refine LI_cond rfl ?_ ?_) <;> intro hc <;> have hc' := hc <;> try simp only [decide_eq_true_eq, decide_eq_false_iff_not, Bool.not_eq_true', Bool.not_eq_false', Bool.not_eq_true, Bool.not_eq_false, beq_iff_eq, bne_iff_ne, beq_eq_false_iff_ne, bne_eq_false_iff_eq, Int.not_lt, Int.not_le, ge_iff_le, gt_iff_lt, not_and, ne_eq, Decidable.not_not] at hc'
  all_goals (try (dsimp only [st, setL, AV.cells, List.set_cons_zero, List.set_cons_succ, List.drop_zero, List.drop_succ_cons, List.take_zero, List.take_succ_cons, Nat.zero_add, Nat.add_zero, Nat.reduceAdd, List.cons_append, List.nil_append, List.eraseIdx_cons_zero, List.eraseIdx_cons_succ]))
  all_goals (refine W ?_)
  · have hh := half_lt hc'
    rw [dig2_pos hc', ← List.singleton_append, ← List.append_assoc] at heq
    refine LS_v (OpV_rem rfl rfl (by omega)) ?_
    try (dsimp only [st, setL, AV.cells, List.set_cons_zero, List.set_cons_succ, List.drop_zero, List.drop_succ_cons, List.take_zero, List.take_succ_cons, Nat.zero_add, Nat.add_zero, Nat.reduceAdd, List.cons_append, List.nil_append, List.eraseIdx_cons_zero, List.eraseIdx_cons_succ])
    refine W ?_
    refine LS_lt [x.tmod 2] rfl rfl (by decide) rfl rfl rfl rfl enI1 rfl rfl fun w1 lw1 sw1 => ?_
    try (dsimp only [st, setL, AV.cells, List.set_cons_zero, List.set_cons_succ, List.drop_zero, List.drop_succ_cons, List.take_zero, List.take_succ_cons, Nat.zero_add, Nat.add_zero, Nat.reduceAdd, List.cons_append, List.nil_append, List.eraseIdx_cons_zero, List.eraseIdx_cons_succ])
    refine W ?_
    refine LS_ap 1 rfl (fun h' HL => HL.rdI 0 rfl enI1 (by decide)) enI1 (by decide) (by simp) (by simp; omega) (by simp; omega) rfl rfl rfl fun w2 lw2 sw2 => ?_
    try (dsimp only [st, setL, AV.cells, List.set_cons_zero, List.set_cons_succ, List.drop_zero, List.drop_succ_cons, List.take_zero, List.take_succ_cons, Nat.zero_add, Nat.add_zero, Nat.reduceAdd, List.cons_append, List.nil_append, List.eraseIdx_cons_zero, List.eraseIdx_cons_succ])
    refine W ?_
    refine LS_qu rfl rfl (by omega) ?_
    try (dsimp only [st, setL, AV.cells, List.set_cons_zero, List.set_cons_succ, List.drop_zero, List.drop_succ_cons, List.take_zero, List.take_succ_cons, Nat.zero_add, Nat.add_zero, Nat.reduceAdd, List.cons_append, List.nil_append, List.eraseIdx_cons_zero, List.eraseIdx_cons_succ])
    refine W ?_
    rw [tdiv2_wrap hx0 (by omega)]
    refine LIL_drop 1 ?_
    refine IH (m - 1) _ _ (by omega) ⟨_, _, _, exJ rfl, rfl, by omega, by omega, by omega, heq⟩
  · rw [dig2_nil (e := x) (by omega), List.append_nil] at heq
    refine RET fun h' HL => ?_
    try dsimp only [oneA]
    rw [heq]
    exact HL.ownI 0 rfl enI1 (by decide)

theorem digits_ac (n : Int) (h : AH) (h0' : 0 ≤ n) (h1 : n ≤ 1000000) :
    AC Try.prog 65 [.i .i64 n, .i .i64 2] h (fun r h' => AL.Own h 1 enI h' r (dig2 n.toNat)) := by
  have hlen := dig2_len 20 n.toNat (by omega)
  refine e65 _ _ fun wf => ?_
  unfold c65
  refine LI_start wf ?_
  refine W ?_
  refine LS_lt ([] : List Int) rfl rfl (by decide) rfl rfl rfl rfl enI1 rfl rfl fun w0 lw0 sw0 => ?_
  try (dsimp only [st, setL, AV.cells, List.set_cons_zero, List.set_cons_succ, List.drop_zero, List.drop_succ_cons, List.take_zero, List.take_succ_cons, Nat.zero_add, Nat.add_zero, Nat.reduceAdd, List.cons_append, List.nil_append, List.eraseIdx_cons_zero, List.eraseIdx_cons_succ])
  refine W ?_
  refine LIL_ind (fun m a L => ∃ (x : Int) (o : AV) (e : List Int), (∃ r : Nat → AV, a = [.i .i64 x, .i .i64 2, r 2, r 3, r 4, o, r 6, r 7, r 8, r 9, r 10, r 11, r 12, r 13, r 14, r 15, r 16, r 17, r 18]) ∧ L = [.sl o 1 (e.flatMap enI)] ∧ 0 ≤ x ∧ x ≤ 1000000 ∧ (x : Int) ≤ m ∧ dig2 n.toNat = e ++ dig2 x.toNat)
    n.toNat ⟨n, _, [], exJ rfl, rfl, by omega, by omega, by omega, rfl⟩ ?_
  rintro m a L ⟨x, o, e, ⟨r, rfl⟩, rfl, hx0, hx1, hxm, heq⟩ IH
  have hel : e.length ≤ 20 := by rw [heq] at hlen; simp only [List.length_append] at hlen; omega
  refine W ?_
  (first | refine LS_gt rfl ?_ ?_ | refine LS_gf rfl ?_ ?_ | refine LI_cond rfl ?_ ?_) <;> intro hc <;> have hc' := hc <;> try simp only [decide_eq_true_eq, decide_eq_false_iff_not, Bool.not_eq_true', Bool.not_eq_false', Bool.not_eq_true, Bool.not_eq_false, beq_iff_eq, bne_iff_ne, beq_eq_false_iff_ne, bne_eq_false_iff_eq, Int.not_lt, Int.not_le, ge_iff_le, gt_iff_lt, not_and, ne_eq, Decidable.not_not] at hc'
  all_goals (try (dsimp only [st, setL, AV.cells, List.set_cons_zero, List.set_cons_succ, List.drop_zero, List.drop_succ_cons, List.take_zero, List.take_succ_cons, Nat.zero_add, Nat.add_zero, Nat.reduceAdd, List.cons_append, List.nil_append, List.eraseIdx_cons_zero, List.eraseIdx_cons_succ]))
  all_goals (refine W ?_)
  · have hh := half_lt hc'
    rw [dig2_pos hc', ← List.singleton_append, ← List.append_assoc] at heq
    refine LS_v (OpV_rem rfl rfl (by omega)) ?_
    try (dsimp only [st, setL, AV.cells, List.set_cons_zero, List.set_cons_succ, List.drop_zero, List.drop_succ_cons, List.take_zero, List.take_succ_cons, Nat.zero_add, Nat.add_zero, Nat.reduceAdd, List.cons_append, List.nil_append, List.eraseIdx_cons_zero, List.eraseIdx_cons_succ])
    refine W ?_
    refine LS_lt [x.tmod 2] rfl rfl (by decide) rfl rfl rfl rfl enI1 rfl rfl fun w1 lw1 sw1 => ?_
    try (dsimp only [st, setL, AV.cells, List.set_cons_zero, List.set_cons_succ, List.drop_zero, List.drop_succ_cons, List.take_zero, List.take_succ_cons, Nat.zero_add, Nat.add_zero, Nat.reduceAdd, List.cons_append, List.nil_append, List.eraseIdx_cons_zero, List.eraseIdx_cons_succ])
    refine W ?_
    refine LS_ap 1 rfl (fun h' HL => HL.rdI 0 rfl enI1 (by decide)) enI1 (by decide) (by simp) (by simp; omega) (by simp; omega) rfl rfl rfl fun w2 lw2 sw2 => ?_
    try (dsimp only [st, setL, AV.cells, List.set_cons_zero, List.set_cons_succ, List.drop_zero, List.drop_succ_cons, List.take_zero, List.take_succ_cons, Nat.zero_add, Nat.add_zero, Nat.reduceAdd, List.cons_append, List.nil_append, List.eraseIdx_cons_zero, List.eraseIdx_cons_succ])
    refine W ?_
    refine LS_qu rfl rfl (by omega) ?_
    try (dsimp only [st, setL, AV.cells, List.set_cons_zero, List.set_cons_succ, List.drop_zero, List.drop_succ_cons, List.take_zero, List.take_succ_cons, Nat.zero_add, Nat.add_zero, Nat.reduceAdd, List.cons_append, List.nil_append, List.eraseIdx_cons_zero, List.eraseIdx_cons_succ])
    refine W ?_
    rw [tdiv2_wrap hx0 (by omega)]
    refine LIL_drop 1 ?_
    refine IH (m - 1) _ _ (by omega) ⟨_, _, _, exJ rfl, rfl, by omega, by omega, by omega, heq⟩
  · rw [dig2_nil (e := x) (by omega), List.append_nil] at heq
    refine RET fun h' HL => ?_
    try dsimp only [oneA]
    rw [heq]
    exact HL.ownI 0 rfl enI1 (by decide)

theorem psm_r {n : Int} {ss : List (Int × Int)} {x : Int} (hn : 0 ≤ n ∧ n ≤ 4096) (h : okS ss) (hl : ss.length ≤ 4096) (h0 : -1 ≤ x) (h1 : x ≤ 4096) : PSm ⟨n, ss, [x]⟩ :=
  ⟨⟨inI_of_bd hn, fun s hs => ⟨inI_of_bd ⟨(h s hs).1, (h s hs).2.1⟩, inI_of_bd (h s hs).2.2⟩, fun v hv => by rw [List.mem_singleton.1 hv]; unfold inI; omega, by show ss.length ≤ _; omega, by simp⟩, by show ss.length ≤ _; omega, by simp⟩

def TupPP (q1 q2 : PlanM) (ok : Bool) (r : AV) (M : List It) : Prop := ∃ ws wo xs xo, r = .tup [.agg [.i .i64 q1.n, ws, wo], .agg [.i .i64 q2.n, xs, xo], .b ok] ∧ (lenA ws = some q1.steps.length ∧ ws.sc = true ∧ lenA wo = some q1.outs.length ∧ wo.sc = true) ∧ (lenA xs = some q2.steps.length ∧ xs.sc = true ∧ lenA xo = some q2.outs.length ∧ xo.sc = true) ∧ M = [.sl ws 2 (q1.steps.flatMap enStep), .sl wo 1 (q1.outs.flatMap enI), .sl xs 2 (q2.steps.flatMap enStep), .sl xo 1 (q2.outs.flatMap enI)]

theorem TupPP.none {h0 h : AH} {L : List It} (H : Loq h0 h L) : ∃ M, TupPP emptyPlan emptyPlan false (.tup [zeroP, zeroP, .b false]) M ∧ Loq h0 h M := ⟨_, ⟨.ns, .ns, .ns, .ns, rfl, ⟨rfl, rfl, rfl, rfl⟩, ⟨rfl, rfl, rfl, rfl⟩, rfl⟩, loq_ns (loq_ns (loq_ns (loq_ns (H.sub (List.nil_sublist _)) 1) 2) 1) 2⟩

/-! ### Plans by factors: plain laws -/
def vE (ss : List (Int × Int)) : List Int := ss.foldl (fun l s => l ++ [l.getD s.1.toNat 0 + l.getD s.2.toNat 0]) [1]

theorem vE_snoc (ss : List (Int × Int)) (s : Int × Int) : vE (ss ++ [s]) = vE ss ++ [(vE ss).getD s.1.toNat 0 + (vE ss).getD s.2.toNat 0] := by
  unfold vE
  rw [List.foldl_append]
  rfl

theorem getD_l {l l' : List Int} {j : Nat} (h : j < l.length) : (l ++ l').getD j 0 = l.getD j 0 := by simp [List.getD, List.getElem?_append_left h]

theorem vE_acc : ∀ (ss : List (Int × Int)) (l : List Int), 0 < l.length → (ss.foldl (fun l s => l ++ [l.getD s.1.toNat 0 + l.getD s.2.toNat 0]) l).length = l.length + ss.length ∧ (ss.foldl (fun l s => l ++ [l.getD s.1.toNat 0 + l.getD s.2.toNat 0]) l).getD 0 0 = l.getD 0 0
  | [], l, h => by simp
  | s :: ss, l, h => by
    obtain ⟨h1, h2⟩ := vE_acc ss (l ++ [l.getD s.1.toNat 0 + l.getD s.2.toNat 0]) (by simp)
    rw [List.foldl_cons]
    refine ⟨by rw [h1]; simp; omega, ?_⟩
    rw [h2, getD_l h]

theorem vE_all (ss : List (Int × Int)) : (vE ss).length = ss.length + 1 ∧ (vE ss).getD 0 0 = 1 := by
  obtain ⟨h1, h2⟩ := vE_acc ss [1] (by simp)
  exact ⟨by unfold vE; rw [h1]; simp; omega, by unfold vE; rw [h2]; rfl⟩

theorem formedS_snoc {n : Int} : ∀ {ss : List (Int × Int)} {s : Int × Int} {i : Nat}, formedS n i (ss ++ [s]) = (formedS n i ss && decide (0 ≤ s.1 ∧ s.1 ≤ s.2 ∧ s.2 < n + (i + ss.length : Nat)))
  | [], s, i => by simp [formedS]
  | t :: ss, s, i => by
    rw [List.cons_append, formedS, formedS, formedS_snoc, Bool.and_assoc, List.length_cons, show i + 1 + ss.length = i + (ss.length + 1) by omega]

theorem stepM_sum {l : List Int} {x y : Int} : l.getD (stepM x y).1.toNat 0 + l.getD (stepM x y).2.toNat 0 = l.getD x.toNat 0 + l.getD y.toNat 0 := by
  unfold stepM
  dsimp only
  by_cases h1 : y < x
  · rw [if_pos h1, if_neg (by omega)]; omega
  · rw [if_neg h1]
    by_cases h2 : y > x
    · rw [if_pos h2]
    · rw [if_neg h2, show y = x by omega]

theorem stepM_or {x y k : Int} (hx : 0 ≤ x ∧ x < k) (hy : 0 ≤ y ∧ y < k) : 0 ≤ (stepM x y).1 ∧ (stepM x y).1 ≤ (stepM x y).2 ∧ (stepM x y).2 < k := by
  unfold stepM
  dsimp only
  refine ⟨?_, ?_, ?_⟩ <;> (repeat' split) <;> omega

/-- A plan with one input whose one output is the power n. -/
structure FacG (n : Nat) (ss : List (Int × Int)) (v : Int) : Prop where
  fm : formedS 1 0 ss = true
  v0 : 0 ≤ v
  v1 : v ≤ ss.length
  ex : (vE ss).getD v.toNat 0 = n
  bd : ∀ x ∈ vE ss, 1 ≤ x ∧ x ≤ n
  ct : 2 ^ ss.length ≤ n * n
  ev : n % 2 = 0 → 2 ^ (ss.length + 1) ≤ n * n

theorem facG_one : FacG 1 [] 0 := ⟨rfl, by omega, by simp, rfl, by simp [vE], by simp, by simp⟩

/-- The program's and the reference's least factor. -/
theorem facG_prime {n : Nat} {ss : List (Int × Int)} {v : Int} (h : FacG n ss v) (hn : 1 ≤ n) (hp : n = 1 ∨ n % 2 = 0) : FacG (n + 1) (ss ++ [stepM v 0]) (1 + ss.length) := by
  obtain ⟨h1, h2, h3, h4, h5, h6, h7⟩ := h
  obtain ⟨a1, a2⟩ := vE_all ss
  have hst := stepM_or (x := v) (y := 0) (k := (ss.length : Int) + 1) ⟨h2, by omega⟩ ⟨by omega, by omega⟩
  have hsum := stepM_sum (l := vE ss) (x := v) (y := 0)
  rw [h4, show (0 : Int).toNat = 0 from rfl, a2] at hsum
  have hv : vE (ss ++ [stepM v 0]) = vE ss ++ [(n : Int) + 1] := by rw [vE_snoc, hsum]
  refine ⟨?_, by omega, by simp; omega, ?_, ?_, ?_, ?_⟩
  · rw [formedS_snoc, h1, Bool.true_and]
    exact decide_eq_true ⟨hst.1, hst.2.1, by simp; omega⟩
  · rw [hv, show (1 + (ss.length : Int)).toNat = (vE ss).length by omega]
    simp [List.getD]
  · intro x hx
    rw [hv] at hx
    rcases List.mem_append.1 hx with hx | hx
    · have := h5 x hx; omega
    · rw [List.mem_singleton.1 hx]; omega
  · rw [List.length_append, List.length_singleton, Nat.pow_succ]
    have e : (n + 1) * (n + 1) = n * n + 2 * n + 1 := by rw [Nat.add_mul, Nat.mul_add]; omega
    rcases hp with rfl | hp
    · omega
    · have := h7 hp
      rw [Nat.pow_succ] at this
      omega
  · intro he
    rcases hp with rfl | hp
    · rw [List.length_append, List.length_singleton, Nat.pow_succ, Nat.pow_succ]
      omega
    · omega

theorem vE_sub : ∀ (b : List (Int × Int)) (l : List Int) (x : Int), x ∈ l → x ∈ b.foldl (fun l s => l ++ [l.getD s.1.toNat 0 + l.getD s.2.toNat 0]) l
  | [], l, x, h => h
  | s :: b, l, x, h => by
    rw [List.foldl_cons]
    exact vE_sub b _ x (List.mem_append_left _ h)

theorem map_getD {l : List Int} {j : Nat} (h : j < l.length) : (l.map fun x => [x]).getD j [] = [l.getD j 0] := by
  simp [List.getD, List.getElem?_eq_getElem h]

theorem exps1 : ∀ (l : List (Int × Int)) (acc : List Int), formedS 1 (acc.length - 1) l = true → 0 < acc.length → (∀ x ∈ l.foldl (fun l s => l ++ [l.getD s.1.toNat 0 + l.getD s.2.toNat 0]) acc, 1 ≤ x ∧ x ≤ 1000000) → l.foldl stepE (acc.map fun x => [x]) = (l.foldl (fun l s => l ++ [l.getD s.1.toNat 0 + l.getD s.2.toNat 0]) acc).map fun x => [x]
  | [], acc, _, _, _ => rfl
  | s :: l, acc, hf, h0, hb => by
    simp only [formedS, Bool.and_eq_true, decide_eq_true_eq] at hf
    rw [List.foldl_cons] at hb
    have hs := hb _ (vE_sub l _ (acc.getD s.1.toNat 0 + acc.getD s.2.toNat 0) (by simp))
    have e : stepE (acc.map fun x => [x]) s = (acc ++ [acc.getD s.1.toNat 0 + acc.getD s.2.toNat 0]).map fun x => [x] := by
      rw [stepE, map_getD (by omega), map_getD (by omega), List.map_append]
      congr 1
      simp only [sumR, List.zipWith_cons_cons, List.zipWith_nil_left, List.map_cons, List.map_nil]
      rw [if_pos (by omega)]
    rw [List.foldl_cons, List.foldl_cons, e]
    exact exps1 l _ (by rw [List.length_append, List.length_singleton, show acc.length + 1 - 1 = acc.length - 1 + 1 by omega]; exact hf.2) (by simp) hb

theorem facGl {n : Nat} {ss : List (Int × Int)} {v : Int} (h : FacG n ss v) (hn : n ≤ 1000000) : ss.length ≤ 39 := by
  have h1 := h.ct
  have h2 : n * n ≤ 1000000 * 1000000 := Nat.mul_le_mul hn hn
  rcases Nat.lt_or_ge ss.length 40 with h3 | h3
  · omega
  · have := Nat.pow_le_pow_right (show 0 < 2 by omega) h3
    have e : (2 : Nat) ^ 40 = 1099511627776 := by decide
    omega

theorem facGk {n : Nat} {ss : List (Int × Int)} {v : Int} (h : FacG n ss v) (hn : n ≤ 1000000) : planOk ⟨1, ss, [v]⟩ = true := by
  have hl := facGl h hn
  obtain ⟨h1, h2, h3, h4, h5, h6, h7⟩ := h
  have he : expsE ⟨1, ss, [v]⟩ = (vE ss).map fun x => [x] := exps1 ss [1] h1 (by simp) fun x hx => by have := h5 x hx; omega
  have hsm : smallE ⟨1, ss, [v]⟩ = true := by
    rw [smallE, he, List.all_map]
    refine List.all_eq_true.2 fun x hx => ?_
    have := h5 x hx
    simp
    omega
  have hpf : planForm ⟨1, ss, [v]⟩ = true := by
    rw [planForm, h1]
    simp
    omega
  rw [planOk, hpf, hsm, outsOk]
  simp
  omega

/-- The program's: ways to numbers, and levels of numbers. -/
def wayA (most m : Int) (way : List Int) (s : List Int × List (Int × List Int)) (x : Int) : List Int × List (Int × List Int) :=
  if m + x ≤ most ∧ (s.2.find? fun e => e.1 == m + x) = none then (s.1 ++ [m + x], s.2 ++ [(m + x, way ++ [m + x])]) else s

def TupS (l : List (List Int)) (ok : Bool) (r : AV) (M : List It) : Prop := ∃ w us, r = .tup [w, .b ok] ∧ us.length = l.length ∧ lenA w = some us.length ∧ w.sc = true ∧ M = ssI w us l

theorem TupS.none {h0 h : AH} {L : List It} (H : Loq h0 h L) : ∃ M, TupS [] false (.tup [.ns, .b false]) M ∧ Loq h0 h M := ⟨_, ⟨.ns, [], rfl, rfl, rfl, rfl, rfl⟩, loq_ns (H.sub (List.nil_sublist _)) 1⟩

def chB (lo m : Int) (c : List Int) : Prop := ∀ x ∈ c, lo ≤ x ∧ x ≤ m

theorem chB.mono {lo m lo' m' : Int} {c : List Int} (h : chB lo m c) (h0 : lo' ≤ lo) (h1 : m ≤ m') : chB lo' m' c := fun x hx => by have := h x hx; omega

theorem chB.set {lo m : Int} {c : List Int} {z : Int} (h : chB lo m c) (i : Nat) (h0 : lo ≤ z) (h1 : z ≤ m) : chB lo m (c.set i z) := fun x hx => by
  rcases List.mem_or_eq_of_mem_set hx with hx | rfl
  · exact h x hx
  · exact ⟨h0, h1⟩

structure TS (ws0 : List (Int × List Int)) (s : List Int × List (Int × List Int)) (B : Nat) : Prop where
  nl : s.1.length ≤ B
  nb : ∀ n ∈ s.1, 0 ≤ n ∧ n ≤ 256
  pre : ∃ t, s.2 = ws0 ++ t
  wb : ∀ p ∈ s.2, 1 ≤ p.2.length ∧ p.2.length ≤ 14 ∧ ∀ x ∈ p.2, 0 ≤ x ∧ x ≤ 256

theorem TS.step {ws0 : List (Int × List Int)} {s : List Int × List (Int × List Int)} {B : Nat} {m x : Int} {way : List Int} (H : TS ws0 s B) (hm : 0 ≤ m ∧ m ≤ 256) (hx : 0 ≤ x ∧ x ≤ 256) (hw : way.length ≤ 13 ∧ ∀ x ∈ way, 0 ≤ x ∧ x ≤ 256) :
    TS ws0 (wayA 256 m way s x) (B + 1) := by
  unfold wayA
  split
  · rename_i hc
    refine ⟨by have := H.nl; simp; omega, ?_, ?_, ?_⟩
    · intro n hn
      rcases List.mem_append.1 hn with hn | hn
      · exact H.nb n hn
      · rw [List.mem_singleton.1 hn]; omega
    · obtain ⟨t, ht⟩ := H.pre
      exact ⟨t ++ [(m + x, way ++ [m + x])], by rw [ht, List.append_assoc]⟩
    · intro p hp
      rcases List.mem_append.1 hp with hp | hp
      · exact H.wb p hp
      · rw [List.mem_singleton.1 hp]
        refine ⟨by simp, by simp; omega, fun y hy => ?_⟩
        rcases List.mem_append.1 hy with hy | hy
        · exact hw.2 y hy
        · rw [List.mem_singleton.1 hy]; omega
  · exact ⟨by have := H.nl; omega, H.nb, H.pre, H.wb⟩

theorem TS.mono {ws0 : List (Int × List Int)} {s : List Int × List (Int × List Int)} {B B' : Nat} (H : TS ws0 s B) (h : B ≤ B') : TS ws0 s B' := ⟨Nat.le_trans H.nl h, H.nb, H.pre, H.wb⟩

/-- Lists of lists handed back, and whether. -/
def TupSS (ll : List (List Int)) (ok : Bool) (r : AV) (M : List It) : Prop := ∃ w us, r = .tup [w, .b ok] ∧ us.length = ll.length ∧ lenA w = some ll.length ∧ w.sc = true ∧ M = ssI w us ll

theorem TupSS.none {h0 h : AH} {L : List It} (H : Loq h0 h L) : ∃ M, TupSS [] false (.tup [.ns, .b false]) M ∧ Loq h0 h M := ⟨_, ⟨.ns, [], rfl, rfl, rfl, rfl, rfl⟩, loq_ns (H.sub (List.nil_sublist _)) 1⟩

/-! ### slices.Backward, ranged over -/
open Go.RowKit Go.Proofs in
attribute [local go_sem] Oper.semAt_some in
set_option maxHeartbeats 2000000 in
theorem backward1_in (F : Fence) (n : Nat) (h7 : F.fn 127) (hro : F.round = none) (hn : 1 ≤ n) (l Bs bo len : Nat) (zs : List Int) (hl : len ≤ 1048576) (J : Nat → World → Prop)
    (hB : ∀ k W, J k W → ∃ p cap, W.cell? ⟨Bs, bo, none⟩ = some (.slice p len cap) ∧ ∀ j, j < len → ∃ bk off, p = some ⟨bk, off, none⟩ ∧ W.cell? ⟨bk, off + j, none⟩ = some (.int .i64 (zs[j]?.getD 0)))
    (hY : ∀ k W, J k W → k < len → YieldAt F (n - 1) Try.prog l #[.int .i64 ((len : Int) - 1 - k), .int .i64 (zs[len - 1 - k]?.getD 0)] W fun e W' => e = .returned (.bool true) ∧ J (k + 1) W')
    (W : World) (h0 : J 0 W) :
    CallsIn F n Try.prog 127 #[.func (.yield l) #[] #[], .pointer (some ⟨Bs, bo, none⟩)] W fun e W' => (∃ v, e = .returned v) ∧ J len W' := by
  refine callsIn_of_wp Try.func127 rfl h7 ?_ hro
  simp only [Try.ntmps127, List.size_toArray, List.length_cons, List.length_nil, Nat.reduceAdd, Nat.reduceSub, Array.replicate_succ, Array.replicate_zero, List.push_toArray, List.append_toArray, List.nil_append, List.cons_append]
  obtain ⟨p0, cap0, hc0, _⟩ := hB 0 W h0
  gi_wp2
  gi_loopw [3] (fun i wr => ∃ k : Nat, k ≤ len ∧ i = .int .i64 ((len : Int) - 1 - k) ∧ J k wr)
    (fun i _ => (intOf i + 1).toNat)
  case atStart => exact ⟨0, Nat.zero_le _, by simp, h0⟩
  case round =>
    obtain ⟨k, hk, rfl, hJ⟩ := hrel
    obtain ⟨p, cap, hc, hel⟩ := hB k wr hJ
    by_cases hlt : k < len
    · obtain ⟨bk, off, rfl, hcx⟩ := hel (len - 1 - k) (by omega)
      obtain ⟨fn, tmps, assign, body, hy, hR⟩ := hY k wr hJ hlt
      have hi : ((len : Int) - 1 - k) = ((len - 1 - k : Nat) : Int) := by omega
      rw [hi] at hy ⊢
      gi_wp2
      refine hR.mono ?_
      rintro e W3 ⟨rfl, hJ3⟩
      gi_wp2
      go_roundw
      case rel => exact ⟨k + 1, by omega, by congr 1 <;> omega, hJ3⟩
      case measure => simp [intOf]
    · obtain rfl : k = len := by omega
      gi_wp2
      go_end0
      exact ⟨⟨_, rfl⟩, hJ⟩
open Go.RowKit Go.Proofs in

theorem back_iter {h : AH} {b : Nat} {v : AV} {zs : List Int} {I : Nat → List It → Prop} (hz : zs.length ≤ 1048576) (hread : ∀ k L' h', I k L' → Loq h h' L' → h'.cell b 0 = some v ∧ Rd h' v zs) :
    Iter Try.prog h 127 [.p b 0] zs.length I (fun k => ((zs.length : Int) - 1 - k, zs[zs.length - 1 - k]?.getD 0)) := by
  refine ⟨enters_of Try.func127 (by kernel_rfl) rfl, fun base w00 ι lb hlb lp J W hJ hY h0 => ?_⟩
  obtain ⟨pl, hp, rfl⟩ : ∃ pl : AL.Place, ι.bl[b]? = some pl ∧ lb = #[.pointer (some ⟨pl.c, pl.o + 0, none⟩)] := by
    cases lb with
    | mk cl =>
      simp only at hlb
      cases hlb with
      | cons h1 t =>
        cases t
        cases h1 with
        | p _ _ pl e => exact ⟨pl, e, rfl⟩
  refine backward1_in Fence.wide 4 trivial rfl (by decide) lp pl.c (pl.o + 0) zs.length zs hz J (fun k W' hj => ?_) hY W h0
  obtain ⟨ι', h', L', hrep, hle, HL', hI⟩ := hJ k W' hj
  obtain ⟨hcell, hR⟩ := hread k L' h' hI HL'
  have hp' := pre_get hle.1 hp
  obtain ⟨row, hrow, hro⟩ : ∃ row, h'.cs[b]? = some row ∧ row[0]? = some v := by
    unfold AH.cell at hcell
    cases hr : h'.cs[b]? with
    | none => rw [hr] at hcell; simp at hcell
    | some row => rw [hr] at hcell; exact ⟨row, rfl, hcell⟩
  obtain ⟨cv, hcc, hcv⟩ := hrep.cell b pl row hp' hrow 0 v hro
  have hln := hR.len
  rcases hR.rd with rfl | ⟨b2, o2, c2, rfl, hg1, hg2⟩
  · have hz0 : zs.length = 0 := by simpa [lenA] using hln.symm
    cases hcv
    exact ⟨none, 0, by rw [hz0]; exact hcc, fun j hj => by omega⟩
  · cases hcv with
    | sl _ _ _ _ pl2 x cap hp2 hcap hcl hx =>
      refine ⟨some x, cap, hcc, fun j hj => ?_⟩
      rcases hx with hx | ⟨rfl, _⟩
      · omega
      · refine ⟨pl2.c, pl2.o + o2, rfl, ?_⟩
        obtain ⟨row2, e1, e2, e3, e4⟩ := row_get hg1
        have hlf : (zs.flatMap enI).length = zs.length := by rw [flatMap_len enI1]; omega
        have h5 : row2[o2 + j]? = some (.i .i64 (zs[j]?.getD 0)) := by
          have h6 : (zs.flatMap enI)[j]? = some (.i .i64 (zs[j]?.getD 0)) := by rw [flatMap_enI]; simp [hj]
          rw [e3, List.getElem?_take_of_lt (by omega), List.getElem?_drop] at h6
          exact h6
        obtain ⟨cv2, h7, h8⟩ := hrep.cell b2 pl2 row2 hp2 e1 (o2 + j) _ h5
        cases h8
        rw [show pl2.o + o2 + j = pl2.o + (o2 + j) by omega]
        exact h7

theorem backward_ac {h : AH} {v : AV} {l : List Int} (hR : Rd h v l) :
    AC Try.prog 66 [v] h (fun r h' => ∃ M, (∃ b, r = .f 127 [.p b 0] ∧ M = [.pt b [v]]) ∧ Loq h h' M) := by
  have sv := rd_sc hR
  refine e66 _ fun wf => ?_
  unfold c66
  refine LI_start wf ?_
  refine W ?_
  refine LS_bx1 rfl sv fun b => ?_
  try (dsimp only [st, setL, AV.cells, List.set_cons_zero, List.set_cons_succ, List.drop_zero, List.drop_succ_cons, List.take_zero, List.take_succ_cons, Nat.zero_add, Nat.add_zero, Nat.reduceAdd, List.cons_append, List.nil_append, List.eraseIdx_cons_zero, List.eraseIdx_cons_succ])
  refine W ?_
  refine RET fun h' HL => ?_
  try dsimp only [oneA]
  exact ⟨_, ⟨b, rfl, rfl⟩, HL⟩

/-! ### Binary plans from the left -/
structure BSt where
  ss : List (Int × Int)
  vt : Int

def bSq (s : BSt) : BSt := ⟨s.ss ++ [stepM s.vt s.vt], 1 + s.ss.length⟩

def bAd (d : Int) (s : BSt) : BSt := if d = 1 then ⟨s.ss ++ [stepM s.vt 0], 1 + s.ss.length⟩ else s

def bSt (E : List Int) : Nat → BSt
  | 0 => ⟨[], 0⟩
  | k + 1 => bAd (E[E.length - 1 - k]?.getD 0) (bSq (bSt E k))

structure BInv (k : Int) (s : BSt) : Prop where
  os : okS s.ss
  ln : (s.ss.length : Int) ≤ k
  q0 : 0 ≤ s.vt
  q1 : s.vt ≤ 4096

theorem bSq_inv {k : Int} {s : BSt} (h : BInv k s) (hk : k ≤ 1000) : BInv (k + 1) (bSq s) := by
  obtain ⟨h1, h2, h3, h4⟩ := h
  unfold bSq
  exact ⟨okS_snoc h1 ⟨h3, h4⟩ ⟨h3, h4⟩, by simp; omega, by simp; omega, by simp; omega⟩

theorem bAd_inv {k d : Int} {s : BSt} (h : BInv k s) (hk : k ≤ 1000) : BInv (k + 1) (bAd d s) := by
  obtain ⟨h1, h2, h3, h4⟩ := h
  unfold bAd
  split
  · exact ⟨okS_snoc h1 ⟨h3, h4⟩ ⟨by omega, by omega⟩, by simp; omega, by simp; omega, by simp; omega⟩
  · exact ⟨h1, by omega, h3, h4⟩

theorem bSt_inv (E : List Int) : ∀ k : Nat, k ≤ 40 → BInv (2 * k) (bSt E k)
  | 0, _ => ⟨(by intro s hs; cases hs), by simp [bSt], by simp [bSt], by simp [bSt]⟩
  | k + 1, hk => by
    have := bAd_inv (d := E[E.length - 1 - k]?.getD 0) (bSq_inv (bSt_inv E k (by omega)) (by omega)) (by omega)
    rw [bSt]
    rwa [show 2 * ((k + 1 : Nat) : Int) = 2 * k + 1 + 1 by omega]

def binE (n : Int) : List Int := (dig2 n.toNat).take ((dig2 n.toNat).length - 1)

def bEnd (n : Int) : BSt := bSt (binE n) (binE n).length

def binQ (n : Int) : PlanM := ⟨1, (bEnd n).ss, [(bEnd n).vt]⟩

def binOk (n : Int) : Bool := decide (1 ≤ n ∧ n ≤ 1000000) && planOk (binQ n)

def binR (n : Int) : PlanM := if binOk n = true then binQ n else emptyPlan

theorem dig2_ne {n : Int} (h : 1 ≤ n) : 1 ≤ (dig2 n.toNat).length := by rw [dig2_pos (by omega)]; simp

theorem implBin_ac (n : Int) (h : AH) : AC Try.prog 23 [.i .i64 n] h (fun r h' => ∃ M, TupP (binR n) (binOk n) r M ∧ Loq h h' M) := by
  refine e23 _ fun wf => ?_
  unfold c23
  refine LF_seq ?_
  refine W ?_
  refine LS_al rfl fun b2 => ?_
  try (dsimp only [st, setL, AV.cells, List.set_cons_zero, List.set_cons_succ, List.drop_zero, List.drop_succ_cons, List.take_zero, List.take_succ_cons, Nat.zero_add, Nat.add_zero, Nat.reduceAdd, List.cons_append, List.nil_append, List.eraseIdx_cons_zero, List.eraseIdx_cons_succ])
  refine W ?_
  refine LFQ_n ?_
  refine LF_seq ?_
  refine W ?_
  refine LS_c0 (fun h' HL wf => isNumber_ac n h') rfl rfl ?_
  try (dsimp only [st, setL, AV.cells, List.set_cons_zero, List.set_cons_succ, List.drop_zero, List.drop_succ_cons, List.take_zero, List.take_succ_cons, Nat.zero_add, Nat.add_zero, Nat.reduceAdd, List.cons_append, List.nil_append, List.eraseIdx_cons_zero, List.eraseIdx_cons_succ])
  refine W ?_
  (first | refine LS_gt rfl ?_ ?_ | refine LS_gf rfl ?_ ?_ | refine LI_cond rfl ?_ ?_) <;> intro hc <;> have hc' := hc <;> try simp only [decide_eq_true_eq, decide_eq_false_iff_not, Bool.not_eq_true', Bool.not_eq_false', Bool.not_eq_true, Bool.not_eq_false, beq_iff_eq, bne_iff_ne, beq_eq_false_iff_ne, bne_eq_false_iff_eq, Int.not_lt, Int.not_le, ge_iff_le, gt_iff_lt, not_and, ne_eq, Decidable.not_not] at hc'
  all_goals (try (dsimp only [st, setL, AV.cells, List.set_cons_zero, List.set_cons_succ, List.drop_zero, List.drop_succ_cons, List.take_zero, List.take_succ_cons, Nat.zero_add, Nat.add_zero, Nat.reduceAdd, List.cons_append, List.nil_append, List.eraseIdx_cons_zero, List.eraseIdx_cons_succ]))
  all_goals (refine W ?_)
  · have hx : binOk n = false := by rw [binOk, nt hc, Bool.false_and]
    rw [binR, hx, if_neg (by simp)]
    refine LFQ_ret (rs := [.cell 2 31, .tmp 3]) (by kernel_rfl) ?_
    refine RET fun h' HL => ?_
    try dsimp only [oneA]
    exact TupP.none HL
  · have hn : 1 ≤ n ∧ n ≤ 1000000 := by simpa using hc
    have hdl := dig2_len 20 n.toNat (by omega)
    have hdn := dig2_ne hn.1
    refine LFQ_n ?_
    refine LF_seq ?_
    refine W ?_
    refine LS_c1 (fun h' HL wf => newMaker_ac 1 h') rfl rfl ?_
    try (dsimp only [st, setL, AV.cells, List.set_cons_zero, List.set_cons_succ, List.drop_zero, List.drop_succ_cons, List.take_zero, List.take_succ_cons, Nat.zero_add, Nat.add_zero, Nat.reduceAdd, List.cons_append, List.nil_append, List.eraseIdx_cons_zero, List.eraseIdx_cons_succ])
    refine W ?_
    rintro _ _ ⟨bm, rfl, rfl⟩
    try (dsimp only [st, setL, AV.cells, List.set_cons_zero, List.set_cons_succ, List.drop_zero, List.drop_succ_cons, List.take_zero, List.take_succ_cons, Nat.zero_add, Nat.add_zero, Nat.reduceAdd, List.cons_append, List.nil_append, List.eraseIdx_cons_zero, List.eraseIdx_cons_succ])
    refine W ?_
    refine LS_al rfl fun b4 => ?_
    try (dsimp only [st, setL, AV.cells, List.set_cons_zero, List.set_cons_succ, List.drop_zero, List.drop_succ_cons, List.take_zero, List.take_succ_cons, Nat.zero_add, Nat.add_zero, Nat.reduceAdd, List.cons_append, List.nil_append, List.eraseIdx_cons_zero, List.eraseIdx_cons_succ])
    refine W ?_
    refine LS_al rfl fun b5 => ?_
    try (dsimp only [st, setL, AV.cells, List.set_cons_zero, List.set_cons_succ, List.drop_zero, List.drop_succ_cons, List.take_zero, List.take_succ_cons, Nat.zero_add, Nat.add_zero, Nat.reduceAdd, List.cons_append, List.nil_append, List.eraseIdx_cons_zero, List.eraseIdx_cons_succ])
    refine W ?_
    refine LFQ_n ?_
    refine LF_seq ?_
    refine W ?_
    refine LS_co (fun h' HL wf => digits_ac n h' (by omega) hn.2) enI1 rfl rfl fun w3 hw3 sw3 => ?_
    try (dsimp only [st, setL, AV.cells, List.set_cons_zero, List.set_cons_succ, List.drop_zero, List.drop_succ_cons, List.take_zero, List.take_succ_cons, Nat.zero_add, Nat.add_zero, Nat.reduceAdd, List.cons_append, List.nil_append, List.eraseIdx_cons_zero, List.eraseIdx_cons_succ])
    refine W ?_
    have hQ : binQ n = ⟨1, (bEnd n).ss, [(bEnd n).vt]⟩ := rfl
    have hE : bEnd n = bSt (binE n) (binE n).length := rfl
    have hEd : binE n = (dig2 n.toNat).take ((dig2 n.toNat).length - 1) := rfl
    generalize hD : dig2 n.toNat = D at *
    refine LFQ_n ?_
    generalize binE n = E at *
    refine LF_conv (L' := [.pt bm [.i .i64 1, .ns, .ns], .sl .ns 2 (([] : List (Int × Int)).flatMap enStep), .pt b5 [.i .i64 0], .pt b4 [.p bm 0], .sl w3 1 (D.flatMap enI), .pt b2 [.i .i64 0, .ns, .ns]]) (fun h' HL => (loq_ns HL 2).sel [4, 0, 2, 3, 1, 5] (by decide)) ?_
    refine LF_rf hfa23_0 hfb23_0 rfl ?_
    refine W ?_
    refine LS_sz (u := D.length - 1) (q := 0) (fun h' HL => HL.rdI 4 rfl enI1 (by decide)) enI1 (.inl ⟨rfl, rfl⟩) (.inr ⟨_, _, _, rfl, rfl, by omega, by omega⟩) (by omega) (by omega) rfl fun w20 hw20 sw20 rw20 => ?_
    try (dsimp only [st, setL, AV.cells, List.set_cons_zero, List.set_cons_succ, List.drop_zero, List.drop_succ_cons, List.take_zero, List.take_succ_cons, Nat.zero_add, Nat.add_zero, Nat.reduceAdd, List.cons_append, List.nil_append, List.eraseIdx_cons_zero, List.eraseIdx_cons_succ])
    refine W ?_
    rw [List.drop_zero, ← hEd] at rw20
    have hEl : E.length = D.length - 1 := by rw [hEd, List.length_take]; omega
    refine LS_c1 (fun h' HL wf => backward_ac (rw20 h' (HL.rdI 4 rfl enI1 (by decide)))) rfl rfl ?_
    try (dsimp only [st, setL, AV.cells, List.set_cons_zero, List.set_cons_succ, List.drop_zero, List.drop_succ_cons, List.take_zero, List.take_succ_cons, Nat.zero_add, Nat.add_zero, Nat.reduceAdd, List.cons_append, List.nil_append, List.eraseIdx_cons_zero, List.eraseIdx_cons_succ])
    refine W ?_
    rintro _ _ ⟨bb, rfl, rfl⟩
    try (dsimp only [st, setL, AV.cells, List.set_cons_zero, List.set_cons_succ, List.drop_zero, List.drop_succ_cons, List.take_zero, List.take_succ_cons, Nat.zero_add, Nat.add_zero, Nat.reduceAdd, List.cons_append, List.nil_append, List.eraseIdx_cons_zero, List.eraseIdx_cons_succ])
    refine LS_conv (L' := [.pt bm [.i .i64 1, .ns, .ns], .sl .ns 2 (([] : List (Int × Int)).flatMap enStep), .pt b5 [.i .i64 0], .pt b4 [.p bm 0], .pt bb [w20], .sl w3 1 (D.flatMap enI), .pt b2 [.i .i64 0, .ns, .ns]]) (fun h' HL => HL.sel [1, 2, 3, 4, 0, 5, 6] (by decide)) (W ?_)
    refine ⟨rfl, _, _, E.length, fun k L => ∃ u, L = [.pt bm [.i .i64 1, u, .ns], .sl u 2 ((bSt E k).ss.flatMap enStep), .pt b5 [.i .i64 (bSt E k).vt], .pt b4 [.p bm 0], .pt bb [w20], .sl w3 1 (D.flatMap enI), .pt b2 [.i .i64 0, .ns, .ns]] ∧ lenA u = some (bSt E k).ss.length ∧ u.sc = true, _, rfl,
      back_iter (by omega) (fun k L' h' ⟨u, e, _⟩ HL' => by subst e; exact ⟨HL'.cellP 4 rfl rfl, rw20 h' (HL'.rdI 5 rfl enI1 (by decide))⟩), ⟨.ns, rfl, rfl, rfl⟩, ?_, ?_⟩
    · rintro k L' ⟨u, rfl, lu, su⟩ hk l m
      have hI := bSt_inv E k (by omega)
      have hI2 := bSq_inv hI (by omega)
      have hsl := hI.ln
      have hsl2 := hI2.ln
      simp only [setps, List.zip_cons_cons, List.zip_nil_left, List.foldl_cons, List.foldl_nil, List.set_cons_succ, List.set_cons_zero]
      unfold cfa23_0
      refine LR_reg NoOut.nor rfl ?_
      refine W ?_
      refine ⟨rfl, ?_⟩
      unfold cfb23_0
      refine LR_block (LR_seq (LR_reg (NoOut.then (NoOut.blk NoOut.nor)) rfl ?_))
      refine W ?_
      refine LS_cm (.refl _) (fun h' HL wf => multiply_ac 1 (bSt E k).ss u .ns (bSt E k).vt (bSt E k).vt bm h h' _ HL (by omega) (by omega) (by omega)) rfl rfl ?_
      try (dsimp only [st, setL, AV.cells, List.set_cons_zero, List.set_cons_succ, List.drop_zero, List.drop_succ_cons, List.take_zero, List.take_succ_cons, Nat.zero_add, Nat.add_zero, Nat.reduceAdd, List.cons_append, List.nil_append, List.eraseIdx_cons_zero, List.eraseIdx_cons_succ])
      refine W ?_
      rintro _ _ ⟨w, rfl, lw, sw, rfl⟩
      try (dsimp only [st, setL, AV.cells, List.set_cons_zero, List.set_cons_succ, List.drop_zero, List.drop_succ_cons, List.take_zero, List.take_succ_cons, Nat.zero_add, Nat.add_zero, Nat.reduceAdd, List.cons_append, List.nil_append, List.eraseIdx_cons_zero, List.eraseIdx_cons_succ])
      refine W ?_
      refine LRThen_n (LR_seq (LR_reg (NoOut.then (NoOut.blk NoOut.nor)) rfl ?_))
      refine W ?_
      refine LRThen_n (LR_cond rfl (fun hc => ?_) (fun hc => ?_))
      · have hd : E[E.length - 1 - k]?.getD 0 = 1 := by simpa using hc
        refine LR_reg (NoOut.blk NoOut.nor) rfl ?_
        refine W ?_
        refine LS_cm (.refl _) (fun h' HL wf => multiply_ac 1 (bSq (bSt E k)).ss w .ns (bSq (bSt E k)).vt 0 bm h h' _ HL (by omega) (by omega) (by omega)) rfl rfl ?_
        try (dsimp only [st, setL, AV.cells, List.set_cons_zero, List.set_cons_succ, List.drop_zero, List.drop_succ_cons, List.take_zero, List.take_succ_cons, Nat.zero_add, Nat.add_zero, Nat.reduceAdd, List.cons_append, List.nil_append, List.eraseIdx_cons_zero, List.eraseIdx_cons_succ])
        refine W ?_
        rintro _ _ ⟨w2, rfl, lw2, sw2, rfl⟩
        try (dsimp only [st, setL, AV.cells, List.set_cons_zero, List.set_cons_succ, List.drop_zero, List.drop_succ_cons, List.take_zero, List.take_succ_cons, Nat.zero_add, Nat.add_zero, Nat.reduceAdd, List.cons_append, List.nil_append, List.eraseIdx_cons_zero, List.eraseIdx_cons_succ])
        refine W ?_
        refine ⟨rfl, w2, ?_, ?_, sw2⟩ <;> rw [bSt, bAd, if_pos hd]
        exact lw2
      · have hd : ¬ E[E.length - 1 - k]?.getD 0 = 1 := by simpa using hc
        refine LR_skip (LBlk_n ⟨rfl, w, ?_, ?_, sw⟩) <;> rw [bSt, bAd, if_neg hd]
        · rfl
        · exact lw
    · rintro L' ⟨u, rfl, lu, su⟩
      have hI := bSt_inv E E.length (by omega)
      have hsl := hI.ln
      rw [← hE] at lu hI hsl ⊢
      refine LF_seq ?_
      refine W ?_
      have hq0 : PSm (binQ n) := by rw [hQ]; exact psm_r (by omega) hI.os (by omega) (by have := hI.q0; omega) hI.q1
      refine LS_lt [(bEnd n).vt] rfl rfl (by decide) rfl rfl rfl rfl enI1 rfl rfl fun wq lq sq => ?_
      try (dsimp only [st, setL, AV.cells, List.set_cons_zero, List.set_cons_succ, List.drop_zero, List.drop_succ_cons, List.take_zero, List.take_succ_cons, Nat.zero_add, Nat.add_zero, Nat.reduceAdd, List.cons_append, List.nil_append, List.eraseIdx_cons_zero, List.eraseIdx_cons_succ])
      refine W ?_
      refine LS_rot 1 rfl ?_
      refine LS_cm (.refl _) (fun h' HL wf => makerPlan_ac 1 u .ns wq bm h h' _ HL su sq) rfl rfl ?_
      try (dsimp only [st, setL, AV.cells, List.set_cons_zero, List.set_cons_succ, List.drop_zero, List.drop_succ_cons, List.take_zero, List.take_succ_cons, Nat.zero_add, Nat.add_zero, Nat.reduceAdd, List.cons_append, List.nil_append, List.eraseIdx_cons_zero, List.eraseIdx_cons_succ])
      refine W ?_
      rintro _ _ ⟨rfl, rfl⟩
      try (dsimp only [st, setL, AV.cells, List.set_cons_zero, List.set_cons_succ, List.drop_zero, List.drop_succ_cons, List.take_zero, List.take_succ_cons, Nat.zero_add, Nat.add_zero, Nat.reduceAdd, List.cons_append, List.nil_append, List.eraseIdx_cons_zero, List.eraseIdx_cons_succ])
      refine W ?_
      refine LS_conv (L' := [.pt b2 [.i .i64 0, .ns, .ns], .sl wq 1 ([(bEnd n).vt].flatMap enI), .sl u 2 ((bEnd n).ss.flatMap enStep)]) (fun h' HL => HL.sel [7, 1, 2] (by decide)) ?_
      cases hq : planOk (binQ n)
      · have hx : binOk n = false := by rw [binOk, hq, Bool.and_false]
        rw [binR, hx, if_neg (by simp)]
        rw [hQ] at hq0 hq
        refine LS_c0 (fun h' HL wf => told_f ⟨1, (bEnd n).ss, [(bEnd n).vt]⟩ _ h' (plr_of HL 2 1 rfl rfl) hq0 hq) rfl rfl ?_
        try (dsimp only [st, setL, AV.cells, List.set_cons_zero, List.set_cons_succ, List.drop_zero, List.drop_succ_cons, List.take_zero, List.take_succ_cons, Nat.zero_add, Nat.add_zero, Nat.reduceAdd, List.cons_append, List.nil_append, List.eraseIdx_cons_zero, List.eraseIdx_cons_succ])
        refine W ?_
        refine LFQ_n (LF_retL (rs := [.cell 2 31, .tmp 3]) (by kernel_rfl) ?_)
        refine RET fun h' HL => ?_
        try dsimp only [oneA]
        exact TupP.none HL
      · have hx : binOk n = true := by rw [binOk, hq, Bool.and_true]; exact decide_eq_true hn
        rw [binR, hx, if_pos rfl, hQ]
        rw [hQ] at hq0 hq
        refine LS_c0 (fun h' HL wf => told_t ⟨1, (bEnd n).ss, [(bEnd n).vt]⟩ _ h' (plr_of HL 2 1 rfl rfl) hq0 hq) rfl rfl ?_
        try (dsimp only [st, setL, AV.cells, List.set_cons_zero, List.set_cons_succ, List.drop_zero, List.drop_succ_cons, List.take_zero, List.take_succ_cons, Nat.zero_add, Nat.add_zero, Nat.reduceAdd, List.cons_append, List.nil_append, List.eraseIdx_cons_zero, List.eraseIdx_cons_succ])
        refine W ?_
        refine LFQ_n (LF_retL (rs := [.cell 2 31, .tmp 3]) (by kernel_rfl) ?_)
        refine RET fun h' HL => ?_
        try dsimp only [oneA]
        exact ⟨_, ⟨u, wq, rfl, lu, su, lq, sq, rfl⟩, HL.sel [2, 1] (by decide)⟩

theorem meBin_ac (n : Int) (h : AH) (h0' : 1 ≤ n) (h1 : n ≤ 1000000) :
    AC Try.prog 57 [.i .i64 n] h (fun r h' => ∃ M, (∃ ws wo, r = .agg [.i .i64 1, ws, wo] ∧ lenA ws = some (bEnd n).ss.length ∧ ws.sc = true ∧ lenA wo = some 1 ∧ wo.sc = true ∧ M = [.sl ws 2 ((bEnd n).ss.flatMap enStep), .sl wo 1 ([(bEnd n).vt].flatMap enI)]) ∧ Loq h h' M) := by
  have hdl := dig2_len 20 n.toNat (by omega)
  have hdn := dig2_ne h0'
  have hE : bEnd n = bSt (binE n) (binE n).length := rfl
  have hEd : binE n = (dig2 n.toNat).take ((dig2 n.toNat).length - 1) := rfl
  generalize bEnd n = B at *
  generalize binE n = E at *
  refine e57 _ fun wf => ?_
  unfold c57
  refine LI_start wf ?_
  refine W ?_
  refine LS_al rfl fun b2 => ?_
  try (dsimp only [st, setL, AV.cells, List.set_cons_zero, List.set_cons_succ, List.drop_zero, List.drop_succ_cons, List.take_zero, List.take_succ_cons, Nat.zero_add, Nat.add_zero, Nat.reduceAdd, List.cons_append, List.nil_append, List.eraseIdx_cons_zero, List.eraseIdx_cons_succ])
  refine W ?_
  refine LS_co (fun h' HL wf => meDigits_ac n h' (by omega) h1) enI1 rfl rfl fun w3 hw3 sw3 => ?_
  try (dsimp only [st, setL, AV.cells, List.set_cons_zero, List.set_cons_succ, List.drop_zero, List.drop_succ_cons, List.take_zero, List.take_succ_cons, Nat.zero_add, Nat.add_zero, Nat.reduceAdd, List.cons_append, List.nil_append, List.eraseIdx_cons_zero, List.eraseIdx_cons_succ])
  refine W ?_
  generalize hD : dig2 n.toNat = D at *
  have hEl : E.length = D.length - 1 := by rw [hEd, List.length_take]; omega
  refine LS_al rfl fun b4 => ?_
  try (dsimp only [st, setL, AV.cells, List.set_cons_zero, List.set_cons_succ, List.drop_zero, List.drop_succ_cons, List.take_zero, List.take_succ_cons, Nat.zero_add, Nat.add_zero, Nat.reduceAdd, List.cons_append, List.nil_append, List.eraseIdx_cons_zero, List.eraseIdx_cons_succ])
  refine W ?_
  refine LIL_nl (k := 2) ?_
  refine LIL_ind (fun m a L => ∃ (k : Int) (j : Nat) (u : AV), (∃ r : Nat → AV, a = [r 0, r 1, .p b2 0, w3, .p b4 0, .i .i64 (bSt E j).vt, .i .i64 k, r 7, r 8, r 9, r 10, r 11, r 12, r 13, r 14, r 15, r 16, r 17, r 18, r 19, r 20, r 21, r 22, r 23, r 24, r 25, r 26, r 27, r 28, r 29, r 30, r 31, r 32, r 33, r 34, r 35, r 36, r 37]) ∧ L = [.sl u 2 ((bSt E j).ss.flatMap enStep), .pt b4 [.i .i64 1, u, .ns], .sl w3 1 (D.flatMap enI), .pt b2 [.i .i64 0, .ns, .ns]] ∧ k = E.length - 1 - j ∧ j + m = E.length ∧ lenA u = some (bSt E j).ss.length ∧ u.sc = true)
    E.length ⟨_, 0, .ns, exJ rfl, rfl, by omega, by omega, rfl, rfl⟩ ?_
  rintro m a L ⟨k, j, u, ⟨r, rfl⟩, rfl, hk, hm, lu, su⟩ IH
  have hI := bSt_inv E j (by omega)
  have hI2 := bSq_inv hI (by omega)
  have hsl := hI.ln
  have hsl2 := hI2.ln
  refine W ?_
  (first | refine LS_gt rfl ?_ ?_ | refine LS_gf rfl ?_ ?_ | refine LI_cond rfl ?_ ?_) <;> intro hc <;> have hc' := hc <;> try simp only [decide_eq_true_eq, decide_eq_false_iff_not, Bool.not_eq_true', Bool.not_eq_false', Bool.not_eq_true, Bool.not_eq_false, beq_iff_eq, bne_iff_ne, beq_eq_false_iff_ne, bne_eq_false_iff_eq, Int.not_lt, Int.not_le, ge_iff_le, gt_iff_lt, not_and, ne_eq, Decidable.not_not] at hc'
  all_goals (try (dsimp only [st, setL, AV.cells, List.set_cons_zero, List.set_cons_succ, List.drop_zero, List.drop_succ_cons, List.take_zero, List.take_succ_cons, Nat.zero_add, Nat.add_zero, Nat.reduceAdd, List.cons_append, List.nil_append, List.eraseIdx_cons_zero, List.eraseIdx_cons_succ]))
  all_goals (refine W ?_)
  · have hjl : j < E.length := by omega
    have hkn : k.toNat = E.length - 1 - j := by omega
    have hdk : D[k.toNat]? = some (E[E.length - 1 - j]?.getD 0) := by
      have hlt : k.toNat < D.length - 1 := by omega
      have hEi : E[k.toNat]? = D[k.toNat]? := by rw [hEd, List.getElem?_take_of_lt hlt]
      have hlt2 : E.length - 1 - j < E.length := by omega
      rw [← hEi, hkn, List.getElem?_eq_getElem hlt2]
      rfl
    refine LS_c1 (fun h' HL wf => meTimes_ac 1 (bSt E j).ss (bSt E j).vt (bSt E j).vt u .ns h' (HL.rdI 0 rfl enStep2 (by decide)) rfl (by omega) (by omega) (by omega)) rfl rfl ?_
    try (dsimp only [st, setL, AV.cells, List.set_cons_zero, List.set_cons_succ, List.drop_zero, List.drop_succ_cons, List.take_zero, List.take_succ_cons, Nat.zero_add, Nat.add_zero, Nat.reduceAdd, List.cons_append, List.nil_append, List.eraseIdx_cons_zero, List.eraseIdx_cons_succ])
    refine W ?_
    rintro _ _ ⟨w, rfl, lw, sw, rfl⟩
    try (dsimp only [st, setL, AV.cells, List.set_cons_zero, List.set_cons_succ, List.drop_zero, List.drop_succ_cons, List.take_zero, List.take_succ_cons, Nat.zero_add, Nat.add_zero, Nat.reduceAdd, List.cons_append, List.nil_append, List.eraseIdx_cons_zero, List.eraseIdx_cons_succ])
    refine W ?_
    refine LS_ix (fun h' HL => HL.rdI 3 rfl enI1 (by decide)) enI1 hdk hc' rfl rfl fun q1 o1 hrow1 => ?_
    try (dsimp only [st, setL, AV.cells, List.set_cons_zero, List.set_cons_succ, List.drop_zero, List.drop_succ_cons, List.take_zero, List.take_succ_cons, Nat.zero_add, Nat.add_zero, Nat.reduceAdd, List.cons_append, List.nil_append, List.eraseIdx_cons_zero, List.eraseIdx_cons_succ])
    refine W ?_
    (first | refine LS_gt rfl ?_ ?_ | refine LS_gf rfl ?_ ?_ | refine LI_cond rfl ?_ ?_) <;> intro hc <;> have hc' := hc <;> try simp only [decide_eq_true_eq, decide_eq_false_iff_not, Bool.not_eq_true', Bool.not_eq_false', Bool.not_eq_true, Bool.not_eq_false, beq_iff_eq, bne_iff_ne, beq_eq_false_iff_ne, bne_eq_false_iff_eq, Int.not_lt, Int.not_le, ge_iff_le, gt_iff_lt, not_and, ne_eq, Decidable.not_not] at hc'
    all_goals (try (dsimp only [st, setL, AV.cells, List.set_cons_zero, List.set_cons_succ, List.drop_zero, List.drop_succ_cons, List.take_zero, List.take_succ_cons, Nat.zero_add, Nat.add_zero, Nat.reduceAdd, List.cons_append, List.nil_append, List.eraseIdx_cons_zero, List.eraseIdx_cons_succ]))
    all_goals (refine W ?_)
    · refine LS_c1 (fun h' HL wf => meTimes_ac 1 (bSq (bSt E j)).ss (bSq (bSt E j)).vt 0 w .ns h' (HL.rdI 0 rfl enStep2 (by decide)) rfl (by omega) (by omega) (by omega)) rfl rfl ?_
      try (dsimp only [st, setL, AV.cells, List.set_cons_zero, List.set_cons_succ, List.drop_zero, List.drop_succ_cons, List.take_zero, List.take_succ_cons, Nat.zero_add, Nat.add_zero, Nat.reduceAdd, List.cons_append, List.nil_append, List.eraseIdx_cons_zero, List.eraseIdx_cons_succ])
      refine W ?_
      rintro _ _ ⟨w2, rfl, lw2, sw2, rfl⟩
      try (dsimp only [st, setL, AV.cells, List.set_cons_zero, List.set_cons_succ, List.drop_zero, List.drop_succ_cons, List.take_zero, List.take_succ_cons, Nat.zero_add, Nat.add_zero, Nat.reduceAdd, List.cons_append, List.nil_append, List.eraseIdx_cons_zero, List.eraseIdx_cons_succ])
      refine W ?_
      refine LIL_conv (L' := [.sl w2 2 (((bSq (bSt E j)).ss ++ [stepM (bSq (bSt E j)).vt 0]).flatMap enStep), .pt b4 [.i .i64 1, w2, .ns], .sl w3 1 (D.flatMap enI), .pt b2 [.i .i64 0, .ns, .ns]]) (fun h' HL => HL.sel [0, 3, 4, 5] (by decide)) ?_
      refine IH (m - 1) _ _ (by omega) ⟨k - 1, j + 1, w2, exJ ?_, ?_, by omega, by omega, ?_, sw2⟩ <;> rw [bSt, bAd, if_pos hc']
      · rfl
      · exact lw2
    · refine LIL_conv (L' := [.sl w 2 (((bSt E j).ss ++ [stepM (bSt E j).vt (bSt E j).vt]).flatMap enStep), .pt b4 [.i .i64 1, w, .ns], .sl w3 1 (D.flatMap enI), .pt b2 [.i .i64 0, .ns, .ns]]) (fun h' HL => HL.sel [0, 2, 3, 4] (by decide)) ?_
      refine IH (m - 1) _ _ (by omega) ⟨k - 1, j + 1, w, exJ ?_, ?_, by omega, by omega, ?_, sw⟩ <;> rw [bSt, bAd, if_neg hc']
      · rfl
      · rfl
      · exact lw
  · have hj : j = E.length := by omega
    subst hj
    rw [← hE] at *
    refine LS_c1 (fun h' HL wf => meEnd_ac 1 B.ss B.vt u .ns h' (HL.rdI 0 rfl enStep2 (by decide)) rfl) rfl rfl ?_
    try (dsimp only [st, setL, AV.cells, List.set_cons_zero, List.set_cons_succ, List.drop_zero, List.drop_succ_cons, List.take_zero, List.take_succ_cons, Nat.zero_add, Nat.add_zero, Nat.reduceAdd, List.cons_append, List.nil_append, List.eraseIdx_cons_zero, List.eraseIdx_cons_succ])
    refine W ?_
    rintro _ _ ⟨wq, rfl, lq, sq, rfl⟩
    try (dsimp only [st, setL, AV.cells, List.set_cons_zero, List.set_cons_succ, List.drop_zero, List.drop_succ_cons, List.take_zero, List.take_succ_cons, Nat.zero_add, Nat.add_zero, Nat.reduceAdd, List.cons_append, List.nil_append, List.eraseIdx_cons_zero, List.eraseIdx_cons_succ])
    refine W ?_
    refine RET fun h' HL => ?_
    try dsimp only [oneA]
    exact ⟨_, ⟨u, wq, rfl, lu, su, lq, sq, rfl⟩, HL.sel [1, 0] (by decide)⟩

/-! ### Binary plans are good -/
theorem facG_dbl {n : Nat} {ss : List (Int × Int)} {v : Int} (h : FacG n ss v) (hn : 1 ≤ n) : FacG (2 * n) (ss ++ [stepM v v]) (1 + ss.length) := by
  obtain ⟨h1, h2, h3, h4, h5, h6, h7⟩ := h
  obtain ⟨a1, a2⟩ := vE_all ss
  have hst := stepM_or (x := v) (y := v) (k := (ss.length : Int) + 1) ⟨h2, by omega⟩ ⟨h2, by omega⟩
  have hsum := stepM_sum (l := vE ss) (x := v) (y := v)
  rw [h4] at hsum
  have hv : vE (ss ++ [stepM v v]) = vE ss ++ [(n : Int) + n] := by rw [vE_snoc, hsum]
  have e : (2 * n) * (2 * n) = 4 * (n * n) := by rw [Nat.mul_assoc, Nat.mul_left_comm n 2 n, ← Nat.mul_assoc]
  refine ⟨?_, by omega, by simp; omega, ?_, ?_, ?_, ?_⟩
  · rw [formedS_snoc, h1, Bool.true_and]
    exact decide_eq_true ⟨hst.1, hst.2.1, by simp; omega⟩
  · rw [hv, show (1 + (ss.length : Int)).toNat = (vE ss).length by omega]
    simp [List.getD]
    omega
  · intro x hx
    rw [hv] at hx
    rcases List.mem_append.1 hx with hx | hx
    · have := h5 x hx; omega
    · rw [List.mem_singleton.1 hx]; omega
  · rw [List.length_append, List.length_singleton, Nat.pow_succ, e]
    omega
  · intro _
    rw [List.length_append, List.length_singleton, Nat.pow_succ, Nat.pow_succ, e]
    omega

def bN (E : List Int) : Nat → Nat
  | 0 => 1
  | k + 1 => 2 * bN E k + (if E[E.length - 1 - k]?.getD 0 = 1 then 1 else 0)

theorem bN_pos (E : List Int) : ∀ k, 1 ≤ bN E k
  | 0 => Nat.le_refl _
  | k + 1 => by have := bN_pos E k; rw [bN]; omega

theorem bSt_fac (E : List Int) : ∀ k, FacG (bN E k) (bSt E k).ss (bSt E k).vt
  | 0 => facG_one
  | k + 1 => by
    have h1 := facG_dbl (bSt_fac E k) (bN_pos E k)
    have hp := bN_pos E k
    rw [bN, bSt, bAd]
    split
    · exact facG_prime h1 (by omega) (.inr (by omega))
    · exact h1

def valB : List Int → Nat
  | [] => 0
  | d :: l => (if d = 1 then 1 else 0) + 2 * valB l

theorem valB_dig : ∀ (k n : Nat), n < 2 ^ k → valB (dig2 n) = n
  | 0, n, h => by rw [dig2, dif_pos (by omega)]; simp [valB]; omega
  | k + 1, n, h => by
    rw [dig2]
    split
    · subst n; rfl
    · have := valB_dig k (n / 2) (by rw [Nat.pow_succ] at h; omega)
      rw [valB, this]
      split <;> omega

theorem dig2_last : ∀ (k n : Nat), n < 2 ^ k → 1 ≤ n → (dig2 n).drop ((dig2 n).length - 1) = [1]
  | 0, n, h, h1 => by omega
  | k + 1, n, h, h1 => by
    rw [dig2, dif_neg (by omega)]
    by_cases h2 : n / 2 = 0
    · rw [h2, dig2, dif_pos rfl]
      have : n = 1 := by omega
      subst this
      rfl
    · have ih := dig2_last k (n / 2) (by rw [Nat.pow_succ] at h; omega) (by omega)
      have hl : 1 ≤ (dig2 (n / 2)).length := by rw [dig2, dif_neg h2]; simp
      rw [List.length_cons, show (dig2 (n / 2)).length + 1 - 1 = ((dig2 (n / 2)).length - 1) + 1 by omega, List.drop_succ_cons]
      exact ih

theorem bN_val {n : Int} (hn : 1 ≤ n ∧ n ≤ 1000000) : ∀ k, k ≤ (binE n).length → bN (binE n) k = valB ((dig2 n.toNat).drop ((binE n).length - k)) := by
  have hdn := dig2_ne hn.1
  have hEl : (binE n).length = (dig2 n.toNat).length - 1 := by unfold binE; rw [List.length_take]; omega
  intro k
  induction k with
  | zero =>
    intro _
    rw [hEl, Nat.sub_zero, dig2_last 20 n.toNat (by omega) (by omega)]
    rfl
  | succ k ih =>
    intro hk
    have hi : (binE n).length - (k + 1) < (dig2 n.toNat).length := by omega
    rw [List.drop_eq_getElem_cons hi, valB, show (binE n).length - (k + 1) + 1 = (binE n).length - k by omega, ← ih (by omega), bN]
    have e : (binE n)[(binE n).length - 1 - k]?.getD 0 = (dig2 n.toNat)[(binE n).length - (k + 1)] := by
      have hlt : (binE n).length - 1 - k < (dig2 n.toNat).length - 1 := by omega
      have e1 : (binE n)[(binE n).length - 1 - k]? = (dig2 n.toNat)[(binE n).length - 1 - k]? := by
        conv => lhs; arg 1; unfold binE
        rw [List.getElem?_take_of_lt hlt]
      rw [e1, List.getElem?_eq_getElem (by omega)]
      simp only [Option.getD_some]
      congr 1
      omega
    rw [e]
    omega

theorem bin_ok {n : Int} (hn : 1 ≤ n ∧ n ≤ 1000000) : planOk (binQ n) = true := by
  have h1 := bSt_fac (binE n) (binE n).length
  have h2 := bN_val hn (binE n).length (Nat.le_refl _)
  rw [Nat.sub_self, List.drop_zero, valB_dig 20 n.toNat (by omega)] at h2
  exact facGk h1 (by omega)

theorem binOk_eq (n : Int) : binOk n = decide (1 ≤ n ∧ n ≤ 1000000) := by
  unfold binOk
  by_cases hn : 1 ≤ n ∧ n ≤ 1000000
  · rw [decide_eq_true hn, bin_ok hn]; rfl
  · rw [decide_eq_false hn]; rfl

theorem implBC_ac (n : Int) (h : AH) : AC Try.prog 16 [.i .i64 n] h (fun r h' => r = .tup [.i .i64 (binR n).steps.length, .b (binOk n)] ∧ h.le h') := by
  refine e16 _ fun wf => ?_
  unfold c16
  refine LI_start wf ?_
  refine W ?_
  refine LS_c1 (fun h' HL wf => implBin_ac n h') rfl rfl ?_
  try (dsimp only [st, setL, AV.cells, List.set_cons_zero, List.set_cons_succ, List.drop_zero, List.drop_succ_cons, List.take_zero, List.take_succ_cons, Nat.zero_add, Nat.add_zero, Nat.reduceAdd, List.cons_append, List.nil_append, List.eraseIdx_cons_zero, List.eraseIdx_cons_succ])
  refine W ?_
  rintro _ _ ⟨gs, go, rfl, lg1, sg1, lg2, sg2, rfl⟩
  try (dsimp only [st, setL, AV.cells, List.set_cons_zero, List.set_cons_succ, List.drop_zero, List.drop_succ_cons, List.take_zero, List.take_succ_cons, Nat.zero_add, Nat.add_zero, Nat.reduceAdd, List.cons_append, List.nil_append, List.eraseIdx_cons_zero, List.eraseIdx_cons_succ])
  refine W ?_
  refine LS_al rfl fun b4 => ?_
  try (dsimp only [st, setL, AV.cells, List.set_cons_zero, List.set_cons_succ, List.drop_zero, List.drop_succ_cons, List.take_zero, List.take_succ_cons, Nat.zero_add, Nat.add_zero, Nat.reduceAdd, List.cons_append, List.nil_append, List.eraseIdx_cons_zero, List.eraseIdx_cons_succ])
  refine W ?_
  refine RET fun h' HL => ?_
  try dsimp only [oneA]
  exact ⟨rfl, HL.le⟩

theorem specBC_ac (n : Int) (h : AH) : AC Try.prog 15 [.i .i64 n] h (fun r h' => r = .tup [.i .i64 (binR n).steps.length, .b (binOk n)] ∧ h.le h') := by
  refine e15 _ fun wf => ?_
  unfold c15
  refine LI_start wf ?_
  refine W ?_
  refine LS_c0 (fun h' HL wf => chNumber_ac n h') rfl rfl ?_
  try (dsimp only [st, setL, AV.cells, List.set_cons_zero, List.set_cons_succ, List.drop_zero, List.drop_succ_cons, List.take_zero, List.take_succ_cons, Nat.zero_add, Nat.add_zero, Nat.reduceAdd, List.cons_append, List.nil_append, List.eraseIdx_cons_zero, List.eraseIdx_cons_succ])
  refine W ?_
  rw [binR, binOk_eq]
  (first | refine LS_gt rfl ?_ ?_ | refine LS_gf rfl ?_ ?_ | refine LI_cond rfl ?_ ?_) <;> intro hc <;> have hc' := hc <;> try simp only [decide_eq_true_eq, decide_eq_false_iff_not, Bool.not_eq_true', Bool.not_eq_false', Bool.not_eq_true, Bool.not_eq_false, beq_iff_eq, bne_iff_ne, beq_eq_false_iff_ne, bne_eq_false_iff_eq, Int.not_lt, Int.not_le, ge_iff_le, gt_iff_lt, not_and, ne_eq, Decidable.not_not] at hc'
  all_goals (try (dsimp only [st, setL, AV.cells, List.set_cons_zero, List.set_cons_succ, List.drop_zero, List.drop_succ_cons, List.take_zero, List.take_succ_cons, Nat.zero_add, Nat.add_zero, Nat.reduceAdd, List.cons_append, List.nil_append, List.eraseIdx_cons_zero, List.eraseIdx_cons_succ]))
  all_goals (refine W ?_)
  rotate_left
  · have hn : 1 ≤ n ∧ n ≤ 1000000 := by simpa using hc
    rw [decide_eq_true hn, if_pos rfl]
    refine LS_c1 (fun h' HL wf => meBin_ac n h' hn.1 hn.2) rfl rfl ?_
    try (dsimp only [st, setL, AV.cells, List.set_cons_zero, List.set_cons_succ, List.drop_zero, List.drop_succ_cons, List.take_zero, List.take_succ_cons, Nat.zero_add, Nat.add_zero, Nat.reduceAdd, List.cons_append, List.nil_append, List.eraseIdx_cons_zero, List.eraseIdx_cons_succ])
    refine W ?_
    rintro _ _ ⟨ws, wo, rfl, l1, s1, l2, s2, rfl⟩
    try (dsimp only [st, setL, AV.cells, List.set_cons_zero, List.set_cons_succ, List.drop_zero, List.drop_succ_cons, List.take_zero, List.take_succ_cons, Nat.zero_add, Nat.add_zero, Nat.reduceAdd, List.cons_append, List.nil_append, List.eraseIdx_cons_zero, List.eraseIdx_cons_succ])
    refine W ?_
    refine RET fun h' HL => ?_
    try dsimp only [oneA]
    exact ⟨rfl, HL.le⟩
  · rw [nt hc, if_neg (by simp)]
    refine RET fun h' HL => ?_
    try dsimp only [oneA]
    exact ⟨rfl, HL.le⟩

theorem lawFnExactBinaryCost_ac (n : Int) (wn : (Lit.int .i64 n).wf = true) (h : AH) : AC Try.prog 3 [.i .i64 n] h (fun r h' => r = .b true) := by
  refine e3 _ fun wf => ?_
  unfold c3
  refine LI_start wf ?_
  refine W ?_
  refine LS_c0 (fun h' HL wf => specBC_ac n h') rfl rfl ?_
  try (dsimp only [st, setL, AV.cells, List.set_cons_zero, List.set_cons_succ, List.drop_zero, List.drop_succ_cons, List.take_zero, List.take_succ_cons, Nat.zero_add, Nat.add_zero, Nat.reduceAdd, List.cons_append, List.nil_append, List.eraseIdx_cons_zero, List.eraseIdx_cons_succ])
  refine W ?_
  refine LS_c0 (fun h' HL wf => implBC_ac n h') rfl rfl ?_
  try (dsimp only [st, setL, AV.cells, List.set_cons_zero, List.set_cons_succ, List.drop_zero, List.drop_succ_cons, List.take_zero, List.take_succ_cons, Nat.zero_add, Nat.add_zero, Nat.reduceAdd, List.cons_append, List.nil_append, List.eraseIdx_cons_zero, List.eraseIdx_cons_succ])
  refine W ?_
  first | (refine LS_gyH rfl (by simp) ?_; intro hg) | (refine LI_cond_tH rfl (by simp) ?_; intro hg)
  refine W ?_
  first | (refine LS_gtnH rfl (by simp) ?_; intro hg; try (dsimp only [st, setL, AV.cells, List.set_cons_zero, List.set_cons_succ, List.drop_zero, List.drop_succ_cons, List.take_zero, List.take_succ_cons, Nat.zero_add, Nat.add_zero, Nat.reduceAdd, List.cons_append, List.nil_append, List.eraseIdx_cons_zero, List.eraseIdx_cons_succ])) | (refine LS_gfnH rfl (by simp) ?_; intro hg; try (dsimp only [st, setL, AV.cells, List.set_cons_zero, List.set_cons_succ, List.drop_zero, List.drop_succ_cons, List.take_zero, List.take_succ_cons, Nat.zero_add, Nat.add_zero, Nat.reduceAdd, List.cons_append, List.nil_append, List.eraseIdx_cons_zero, List.eraseIdx_cons_succ])) | (refine LI_cond_fH rfl (by simp) ?_; intro hg)
  refine W ?_
  refine RET fun h' HL => ?_
  try dsimp only [oneA]
end Go.Proofs.Ytdcliofmdlhmaaa
