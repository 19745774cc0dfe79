/- The walk of the law FnExactRunWords, part 1: what each function that it reaches computes. -/
import Derived.Test.YtdcliofmdlhmaaaCFnExactRunWords
namespace Go.Proofs.Ytdcliofmdlhmaaa
open Go.AL
set_option linter.unusedVariables false
set_option linter.unusedSimpArgs false
set_option maxRecDepth 100000
set_option maxHeartbeats 1000000
attribute [local irreducible] AS AI AIL OpR AC CW AWP ALoop LS LI LIL LThen LLoop LBlk LRet Lh AX OpV OpF

theorem nf {b : Bool} (h : (!b) = false) : b = true := by cases b <;> simp_all

theorem nt {b : Bool} (h : (!b) = true) : b = false := by cases b <;> simp_all

theorem in_ac (n lo hi : Int) (h : AH) : AC Try.prog 104 [.i .i64 n, .i .i64 lo, .i .i64 hi] h (fun v h' => v = .b (decide (lo ≤ n ∧ n ≤ hi)) ∧ h = h') := by
  refine e104 _ _ _ fun wf => ?_
  unfold c104
  repeat (first | refine AI_seqk fun K hK => ?_ | refine AI_reg ?_ | ((first | refine wmv rfl ?_ | refine wag rfl ?_ | refine war _ rfl rfl rfl (by omega) (by omega) ?_ | refine wbn rfl rfl rfl ?_ | refine wnt rfl ?_ | refine wex rfl rfl ?_ | refine wpt rfl (by first | assumption | with_reducible rfl) rfl ?_ | refine wpf rfl (by first | assumption | with_reducible rfl) rfl ?_ | refine wpb rfl rfl rfl ?_ | refine wmf rfl ?_ | refine wnc rfl ?_ | refine wbq Try.underlying4 rfl rfl _ (.inr ⟨rfl, rfl⟩) ?_ | refine wbq Try.underlying4 rfl rfl _ (.inl ⟨rfl, rfl⟩) ?_); try dsimp only [st, List.set_cons_zero, List.set_cons_succ]) | ((first | refine AS_nil ?_ | refine AI_skip ?_ | refine AI_exit ?_); try simp only [AThen, ABlk, reduceIte, reduceCtorEq]) | ((first | refine hK _ _ ?_ | ((first | clear hK K | clear IH hK K); refine hK _ _ ?_) | ((first | clear hK K | clear IH hK K); (first | clear hK K | clear IH hK K); refine hK _ _ ?_) | ((first | clear hK K | clear IH hK K); (first | clear hK K | clear IH hK K); (first | clear hK K | clear IH hK K); refine hK _ _ ?_)); try (first | clear hK K | clear IH hK K)) | refine AI_cond_t rfl (by first | assumption | with_reducible rfl) ?_ | refine AI_cond_f rfl (by first | assumption | with_reducible rfl) ?_ | refine AS_gy rfl (by first | assumption | with_reducible rfl) ?_ | refine AS_gtn rfl (by first | assumption | with_reducible rfl) ?_ | refine AS_gfn rfl (by first | assumption | with_reducible rfl) ?_ | refine AI_block (AI_loop ?_) | refine AI_block ?_ | refine AI_ret ⟨_, rfl, ?_⟩)
  (first | refine AS_gt rfl ?_ ?_ | refine AS_gf rfl ?_ ?_ | refine AI_cond rfl ?_ ?_) <;> intro hc <;> have hc' := hc <;> try simp only [decide_eq_true_eq, decide_eq_false_iff_not, Bool.not_eq_true', Bool.not_eq_false', Bool.not_eq_true, Bool.not_eq_false, beq_iff_eq, bne_iff_ne, beq_eq_false_iff_ne, bne_eq_false_iff_eq, Int.not_lt, Int.not_le, ge_iff_le, gt_iff_lt, not_and, ne_eq, Decidable.not_not] at hc'
  all_goals
    repeat (first | refine AI_seqk fun K hK => ?_ | refine AI_reg ?_ | ((first | refine wmv rfl ?_ | refine wag rfl ?_ | refine war _ rfl rfl rfl (by omega) (by omega) ?_ | refine wbn rfl rfl rfl ?_ | refine wnt rfl ?_ | refine wex rfl rfl ?_ | refine wpt rfl (by first | assumption | with_reducible rfl) rfl ?_ | refine wpf rfl (by first | assumption | with_reducible rfl) rfl ?_ | refine wpb rfl rfl rfl ?_ | refine wmf rfl ?_ | refine wnc rfl ?_ | refine wbq Try.underlying4 rfl rfl _ (.inr ⟨rfl, rfl⟩) ?_ | refine wbq Try.underlying4 rfl rfl _ (.inl ⟨rfl, rfl⟩) ?_); try dsimp only [st, List.set_cons_zero, List.set_cons_succ]) | ((first | refine AS_nil ?_ | refine AI_skip ?_ | refine AI_exit ?_); try simp only [AThen, ABlk, reduceIte, reduceCtorEq]) | ((first | refine hK _ _ ?_ | ((first | clear hK K | clear IH hK K); refine hK _ _ ?_) | ((first | clear hK K | clear IH hK K); (first | clear hK K | clear IH hK K); refine hK _ _ ?_) | ((first | clear hK K | clear IH hK K); (first | clear hK K | clear IH hK K); (first | clear hK K | clear IH hK K); refine hK _ _ ?_)); try (first | clear hK K | clear IH hK K)) | refine AI_cond_t rfl (by first | assumption | with_reducible rfl) ?_ | refine AI_cond_f rfl (by first | assumption | with_reducible rfl) ?_ | refine AS_gy rfl (by first | assumption | with_reducible rfl) ?_ | refine AS_gtn rfl (by first | assumption | with_reducible rfl) ?_ | refine AS_gfn rfl (by first | assumption | with_reducible rfl) ?_ | refine AI_block (AI_loop ?_) | refine AI_block ?_ | refine AI_ret ⟨_, rfl, ?_⟩)
  · exact ⟨by simp [hc', oneA], rfl⟩
  · exact ⟨by first | (simp [oneA, hc']; done) | (simp [oneA, hc']; omega), rfl⟩

theorem l1In_ac (n lo hi : Int) (h : AH) : AC Try.prog 100 [.i .i64 n, .i .i64 lo, .i .i64 hi] h (fun v h' => v = .b (decide (lo ≤ n ∧ n ≤ hi)) ∧ h = h') := by
  refine e100 _ _ _ fun wf => ?_
  unfold c100
  repeat (first | refine AI_seqk fun K hK => ?_ | refine AI_reg ?_ | ((first | refine wmv rfl ?_ | refine wag rfl ?_ | refine war _ rfl rfl rfl (by omega) (by omega) ?_ | refine wbn rfl rfl rfl ?_ | refine wnt rfl ?_ | refine wex rfl rfl ?_ | refine wpt rfl (by first | assumption | with_reducible rfl) rfl ?_ | refine wpf rfl (by first | assumption | with_reducible rfl) rfl ?_ | refine wpb rfl rfl rfl ?_ | refine wmf rfl ?_ | refine wnc rfl ?_ | refine wbq Try.underlying4 rfl rfl _ (.inr ⟨rfl, rfl⟩) ?_ | refine wbq Try.underlying4 rfl rfl _ (.inl ⟨rfl, rfl⟩) ?_); try dsimp only [st, List.set_cons_zero, List.set_cons_succ]) | ((first | refine AS_nil ?_ | refine AI_skip ?_ | refine AI_exit ?_); try simp only [AThen, ABlk, reduceIte, reduceCtorEq]) | ((first | refine hK _ _ ?_ | ((first | clear hK K | clear IH hK K); refine hK _ _ ?_) | ((first | clear hK K | clear IH hK K); (first | clear hK K | clear IH hK K); refine hK _ _ ?_) | ((first | clear hK K | clear IH hK K); (first | clear hK K | clear IH hK K); (first | clear hK K | clear IH hK K); refine hK _ _ ?_)); try (first | clear hK K | clear IH hK K)) | refine AI_cond_t rfl (by first | assumption | with_reducible rfl) ?_ | refine AI_cond_f rfl (by first | assumption | with_reducible rfl) ?_ | refine AS_gy rfl (by first | assumption | with_reducible rfl) ?_ | refine AS_gtn rfl (by first | assumption | with_reducible rfl) ?_ | refine AS_gfn rfl (by first | assumption | with_reducible rfl) ?_ | refine AI_block (AI_loop ?_) | refine AI_block ?_ | refine AI_ret ⟨_, rfl, ?_⟩)
  (first | refine AS_gt rfl ?_ ?_ | refine AS_gf rfl ?_ ?_ | refine AI_cond rfl ?_ ?_) <;> intro hc <;> have hc' := hc <;> try simp only [decide_eq_true_eq, decide_eq_false_iff_not, Bool.not_eq_true', Bool.not_eq_false', Bool.not_eq_true, Bool.not_eq_false, beq_iff_eq, bne_iff_ne, beq_eq_false_iff_ne, bne_eq_false_iff_eq, Int.not_lt, Int.not_le, ge_iff_le, gt_iff_lt, not_and, ne_eq, Decidable.not_not] at hc'
  all_goals
    repeat (first | refine AI_seqk fun K hK => ?_ | refine AI_reg ?_ | ((first | refine wmv rfl ?_ | refine wag rfl ?_ | refine war _ rfl rfl rfl (by omega) (by omega) ?_ | refine wbn rfl rfl rfl ?_ | refine wnt rfl ?_ | refine wex rfl rfl ?_ | refine wpt rfl (by first | assumption | with_reducible rfl) rfl ?_ | refine wpf rfl (by first | assumption | with_reducible rfl) rfl ?_ | refine wpb rfl rfl rfl ?_ | refine wmf rfl ?_ | refine wnc rfl ?_ | refine wbq Try.underlying4 rfl rfl _ (.inr ⟨rfl, rfl⟩) ?_ | refine wbq Try.underlying4 rfl rfl _ (.inl ⟨rfl, rfl⟩) ?_); try dsimp only [st, List.set_cons_zero, List.set_cons_succ]) | ((first | refine AS_nil ?_ | refine AI_skip ?_ | refine AI_exit ?_); try simp only [AThen, ABlk, reduceIte, reduceCtorEq]) | ((first | refine hK _ _ ?_ | ((first | clear hK K | clear IH hK K); refine hK _ _ ?_) | ((first | clear hK K | clear IH hK K); (first | clear hK K | clear IH hK K); refine hK _ _ ?_) | ((first | clear hK K | clear IH hK K); (first | clear hK K | clear IH hK K); (first | clear hK K | clear IH hK K); refine hK _ _ ?_)); try (first | clear hK K | clear IH hK K)) | refine AI_cond_t rfl (by first | assumption | with_reducible rfl) ?_ | refine AI_cond_f rfl (by first | assumption | with_reducible rfl) ?_ | refine AS_gy rfl (by first | assumption | with_reducible rfl) ?_ | refine AS_gtn rfl (by first | assumption | with_reducible rfl) ?_ | refine AS_gfn rfl (by first | assumption | with_reducible rfl) ?_ | refine AI_block (AI_loop ?_) | refine AI_block ?_ | refine AI_ret ⟨_, rfl, ?_⟩)
  · exact ⟨by simp [hc', oneA], rfl⟩
  · exact ⟨by first | (simp [oneA, hc']; done) | (simp [oneA, hc']; omega), rfl⟩

/-- A predicate handed over: what it answers, in whatever heap that has grown. -/
def Pred {α : Type} (P : Program) (g : FuncId) (caps : List AV) (enc : α → AV) (h : AH) (p : α → Bool) (l : List α) : Prop :=
  ∀ x ∈ l, ∀ h', h.le h' → AC P g (enc x :: caps) h' (fun v h'' => v = .b (p x) ∧ h'.le h'')

/-- The first place from i on. -/
def idxFrom {α : Type} (p : α → Bool) : List α → Int → Int
  | [], _ => -1
  | x :: l, i => if p x then i else idxFrom p l (i + 1)

theorem idxFrom_any {α : Type} (p : α → Bool) : ∀ (l : List α) (i : Int), 0 ≤ i → (decide (0 ≤ idxFrom p l i)) = l.any p
  | [], i, _ => by simp [idxFrom]
  | x :: l, i, h => by
    cases hp : p x <;> simp [idxFrom, hp, h]
    rw [← idxFrom_any p l (i + 1) (by omega)]

theorem drop_at {α : Type} {l : List α} {i : Int} (h0 : 0 ≤ i) (h1 : i < l.length) : ∃ y, l[i.toNat]? = some y ∧ y ∈ l ∧ l.drop i.toNat = y :: l.drop (i.toNat + 1) := by
  have hlt : i.toNat < l.length := by omega
  exact ⟨l[i.toNat], List.getElem?_eq_getElem hlt, List.getElem_mem hlt, List.drop_eq_getElem_cons hlt⟩

theorem toNat_succ {i : Int} (h0 : 0 ≤ i) : (i + 1).toNat = i.toNat + 1 := by omega

theorem IndexFunc_int_ac (l : List Int) (v : AV) (g : FuncId) (caps : List AV) (p : Int → Bool) (h : AH) (hR : RdG 1 enI h v l) (hl : l.length ≤ 4611686018427387904)
    (hp : Pred Try.prog g caps (.i .i64) h p l) :
    AC Try.prog 143 [v, .f g caps] h (fun r h' => r = .i .i64 (idxFrom p l 0) ∧ h.le h') := by
  refine e143 _ _ fun wf => ?_
  unfold c143
  repeat (first | refine AI_seqk fun K hK => ?_ | refine AI_reg ?_ | ((first | refine wmv rfl ?_ | refine wag rfl ?_ | refine war _ rfl rfl rfl (by omega) (by omega) ?_ | refine wbn rfl rfl rfl ?_ | refine wnt rfl ?_ | refine wex rfl rfl ?_ | refine wpt rfl (by first | assumption | with_reducible rfl) rfl ?_ | refine wpf rfl (by first | assumption | with_reducible rfl) rfl ?_ | refine wpb rfl rfl rfl ?_ | refine wmf rfl ?_ | refine wnc rfl ?_ | refine wbq Try.underlying4 rfl rfl _ (.inr ⟨rfl, rfl⟩) ?_ | refine wbq Try.underlying4 rfl rfl _ (.inl ⟨rfl, rfl⟩) ?_); try dsimp only [st, List.set_cons_zero, List.set_cons_succ]) | ((first | refine AS_nil ?_ | refine AI_skip ?_ | refine AI_exit ?_); try simp only [AThen, ABlk, reduceIte, reduceCtorEq]) | ((first | refine hK _ _ ?_ | ((first | clear hK K | clear IH hK K); refine hK _ _ ?_) | ((first | clear hK K | clear IH hK K); (first | clear hK K | clear IH hK K); refine hK _ _ ?_) | ((first | clear hK K | clear IH hK K); (first | clear hK K | clear IH hK K); (first | clear hK K | clear IH hK K); refine hK _ _ ?_)); try (first | clear hK K | clear IH hK K)) | refine AI_cond_t rfl (by first | assumption | with_reducible rfl) ?_ | refine AI_cond_f rfl (by first | assumption | with_reducible rfl) ?_ | refine AS_gy rfl (by first | assumption | with_reducible rfl) ?_ | refine AS_gtn rfl (by first | assumption | with_reducible rfl) ?_ | refine AS_gfn rfl (by first | assumption | with_reducible rfl) ?_ | refine AI_block (AI_loop ?_) | refine AI_block ?_ | refine AI_ret ⟨_, rfl, ?_⟩)
  refine AS_op (OpR_lenA Try.underlying29 rfl hR.len ?_)
  try (dsimp only [st, setL, AV.cells, List.set_cons_zero, List.set_cons_succ, List.drop_zero, List.drop_succ_cons, List.take_zero, List.take_succ_cons, Nat.zero_add, Nat.add_zero, Nat.reduceAdd, List.cons_append, List.nil_append, List.eraseIdx_cons_zero, List.eraseIdx_cons_succ])
  repeat (first | refine AI_seqk fun K hK => ?_ | refine AI_reg ?_ | ((first | refine wmv rfl ?_ | refine wag rfl ?_ | refine war _ rfl rfl rfl (by omega) (by omega) ?_ | refine wbn rfl rfl rfl ?_ | refine wnt rfl ?_ | refine wex rfl rfl ?_ | refine wpt rfl (by first | assumption | with_reducible rfl) rfl ?_ | refine wpf rfl (by first | assumption | with_reducible rfl) rfl ?_ | refine wpb rfl rfl rfl ?_ | refine wmf rfl ?_ | refine wnc rfl ?_ | refine wbq Try.underlying4 rfl rfl _ (.inr ⟨rfl, rfl⟩) ?_ | refine wbq Try.underlying4 rfl rfl _ (.inl ⟨rfl, rfl⟩) ?_); try dsimp only [st, List.set_cons_zero, List.set_cons_succ]) | ((first | refine AS_nil ?_ | refine AI_skip ?_ | refine AI_exit ?_); try simp only [AThen, ABlk, reduceIte, reduceCtorEq]) | ((first | refine hK _ _ ?_ | ((first | clear hK K | clear IH hK K); refine hK _ _ ?_) | ((first | clear hK K | clear IH hK K); (first | clear hK K | clear IH hK K); refine hK _ _ ?_) | ((first | clear hK K | clear IH hK K); (first | clear hK K | clear IH hK K); (first | clear hK K | clear IH hK K); refine hK _ _ ?_)); try (first | clear hK K | clear IH hK K)) | refine AI_cond_t rfl (by first | assumption | with_reducible rfl) ?_ | refine AI_cond_f rfl (by first | assumption | with_reducible rfl) ?_ | refine AS_gy rfl (by first | assumption | with_reducible rfl) ?_ | refine AS_gtn rfl (by first | assumption | with_reducible rfl) ?_ | refine AS_gfn rfl (by first | assumption | with_reducible rfl) ?_ | refine AI_block (AI_loop ?_) | refine AI_block ?_ | refine AI_ret ⟨_, rfl, ?_⟩)
  refine AIL_ind (fun (n : Nat) a h' => ∃ (i : Int) (x5 : AV), (∃ r : Nat → AV, a = [v, .f g caps, un, un, .i .i64 0, x5, v, .i .i64 l.length, .i .i64 i, r 9, r 10, r 11, r 12, r 13, r 14, r 15, r 16, r 17, r 18]) ∧ 0 ≤ i ∧ i + n = l.length ∧ h.le h' ∧ idxFrom p l 0 = idxFrom p (l.drop i.toNat) i)
    ?_ l.length _ _ ⟨0, _, exJ rfl, by omega, by omega, .refl _, rfl⟩
  rintro n a h' ⟨i, x5, ⟨r, rfl⟩, h0, hn, hle, hidx⟩ IH
  repeat (first | refine AI_seqk fun K hK => ?_ | refine AI_reg ?_ | ((first | refine wmv rfl ?_ | refine wag rfl ?_ | refine war _ rfl rfl rfl (by omega) (by omega) ?_ | refine wbn rfl rfl rfl ?_ | refine wnt rfl ?_ | refine wex rfl rfl ?_ | refine wpt rfl (by first | assumption | with_reducible rfl) rfl ?_ | refine wpf rfl (by first | assumption | with_reducible rfl) rfl ?_ | refine wpb rfl rfl rfl ?_ | refine wmf rfl ?_ | refine wnc rfl ?_ | refine wbq Try.underlying4 rfl rfl _ (.inr ⟨rfl, rfl⟩) ?_ | refine wbq Try.underlying4 rfl rfl _ (.inl ⟨rfl, rfl⟩) ?_); try dsimp only [st, List.set_cons_zero, List.set_cons_succ]) | ((first | refine AS_nil ?_ | refine AI_skip ?_ | refine AI_exit ?_); try simp only [AThen, ABlk, reduceIte, reduceCtorEq]) | ((first | refine hK _ _ ?_ | ((first | clear hK K | clear IH hK K); refine hK _ _ ?_) | ((first | clear hK K | clear IH hK K); (first | clear hK K | clear IH hK K); refine hK _ _ ?_) | ((first | clear hK K | clear IH hK K); (first | clear hK K | clear IH hK K); (first | clear hK K | clear IH hK K); refine hK _ _ ?_)); try (first | clear hK K | clear IH hK K)) | refine AI_cond_t rfl (by first | assumption | with_reducible rfl) ?_ | refine AI_cond_f rfl (by first | assumption | with_reducible rfl) ?_ | refine AS_gy rfl (by first | assumption | with_reducible rfl) ?_ | refine AS_gtn rfl (by first | assumption | with_reducible rfl) ?_ | refine AS_gfn rfl (by first | assumption | with_reducible rfl) ?_ | refine AI_block (AI_loop ?_) | refine AI_block ?_ | refine AI_ret ⟨_, rfl, ?_⟩)
  (first | refine AS_gt rfl ?_ ?_ | refine AS_gf rfl ?_ ?_ | refine AI_cond rfl ?_ ?_) <;> intro hc <;> have hc' := hc <;> try simp only [decide_eq_true_eq, decide_eq_false_iff_not, Bool.not_eq_true', Bool.not_eq_false', Bool.not_eq_true, Bool.not_eq_false, beq_iff_eq, bne_iff_ne, beq_eq_false_iff_ne, bne_eq_false_iff_eq, Int.not_lt, Int.not_le, ge_iff_le, gt_iff_lt, not_and, ne_eq, Decidable.not_not] at hc'
  all_goals
    repeat (first | refine AI_seqk fun K hK => ?_ | refine AI_reg ?_ | ((first | refine wmv rfl ?_ | refine wag rfl ?_ | refine war _ rfl rfl rfl (by omega) (by omega) ?_ | refine wbn rfl rfl rfl ?_ | refine wnt rfl ?_ | refine wex rfl rfl ?_ | refine wpt rfl (by first | assumption | with_reducible rfl) rfl ?_ | refine wpf rfl (by first | assumption | with_reducible rfl) rfl ?_ | refine wpb rfl rfl rfl ?_ | refine wmf rfl ?_ | refine wnc rfl ?_ | refine wbq Try.underlying4 rfl rfl _ (.inr ⟨rfl, rfl⟩) ?_ | refine wbq Try.underlying4 rfl rfl _ (.inl ⟨rfl, rfl⟩) ?_); try dsimp only [st, List.set_cons_zero, List.set_cons_succ]) | ((first | refine AS_nil ?_ | refine AI_skip ?_ | refine AI_exit ?_); try simp only [AThen, ABlk, reduceIte, reduceCtorEq]) | ((first | refine hK _ _ ?_ | ((first | clear hK K | clear IH hK K); refine hK _ _ ?_) | ((first | clear hK K | clear IH hK K); (first | clear hK K | clear IH hK K); refine hK _ _ ?_) | ((first | clear hK K | clear IH hK K); (first | clear hK K | clear IH hK K); (first | clear hK K | clear IH hK K); refine hK _ _ ?_)); try (first | clear hK K | clear IH hK K)) | refine AI_cond_t rfl (by first | assumption | with_reducible rfl) ?_ | refine AI_cond_f rfl (by first | assumption | with_reducible rfl) ?_ | refine AS_gy rfl (by first | assumption | with_reducible rfl) ?_ | refine AS_gtn rfl (by first | assumption | with_reducible rfl) ?_ | refine AS_gfn rfl (by first | assumption | with_reducible rfl) ?_ | refine AI_block (AI_loop ?_) | refine AI_block ?_ | refine AI_ret ⟨_, rfl, ?_⟩)
  · obtain ⟨y, hy, hmem, hdrop⟩ := drop_at h0 hc'
    rw [hdrop] at hidx
    refine AS_op (OpR_idx Try.underlying29 sz3 rfl rfl (hR.le hle) (fun _ => rfl) h0 hy fun b o hrow => ?_)
    try (dsimp only [st, setL, AV.cells, List.set_cons_zero, List.set_cons_succ, List.drop_zero, List.drop_succ_cons, List.take_zero, List.take_succ_cons, Nat.zero_add, Nat.add_zero, Nat.reduceAdd, List.cons_append, List.nil_append, List.eraseIdx_cons_zero, List.eraseIdx_cons_succ])
    repeat (first | refine AI_seqk fun K hK => ?_ | refine AI_reg ?_ | ((first | refine wmv rfl ?_ | refine wag rfl ?_ | refine war _ rfl rfl rfl (by omega) (by omega) ?_ | refine wbn rfl rfl rfl ?_ | refine wnt rfl ?_ | refine wex rfl rfl ?_ | refine wpt rfl (by first | assumption | with_reducible rfl) rfl ?_ | refine wpf rfl (by first | assumption | with_reducible rfl) rfl ?_ | refine wpb rfl rfl rfl ?_ | refine wmf rfl ?_ | refine wnc rfl ?_ | refine wbq Try.underlying4 rfl rfl _ (.inr ⟨rfl, rfl⟩) ?_ | refine wbq Try.underlying4 rfl rfl _ (.inl ⟨rfl, rfl⟩) ?_); try dsimp only [st, List.set_cons_zero, List.set_cons_succ]) | ((first | refine AS_nil ?_ | refine AI_skip ?_ | refine AI_exit ?_); try simp only [AThen, ABlk, reduceIte, reduceCtorEq]) | ((first | refine hK _ _ ?_ | ((first | clear hK K | clear IH hK K); refine hK _ _ ?_) | ((first | clear hK K | clear IH hK K); (first | clear hK K | clear IH hK K); refine hK _ _ ?_) | ((first | clear hK K | clear IH hK K); (first | clear hK K | clear IH hK K); (first | clear hK K | clear IH hK K); refine hK _ _ ?_)); try (first | clear hK K | clear IH hK K)) | refine AI_cond_t rfl (by first | assumption | with_reducible rfl) ?_ | refine AI_cond_f rfl (by first | assumption | with_reducible rfl) ?_ | refine AS_gy rfl (by first | assumption | with_reducible rfl) ?_ | refine AS_gtn rfl (by first | assumption | with_reducible rfl) ?_ | refine AS_gfn rfl (by first | assumption | with_reducible rfl) ?_ | refine AI_block (AI_loop ?_) | refine AI_block ?_ | refine AI_ret ⟨_, rfl, ?_⟩)
    refine AS_op (OpR_load rfl (loadA_1 ag3 (cell_row hrow)) ?_)
    try (dsimp only [st, setL, AV.cells, List.set_cons_zero, List.set_cons_succ, List.drop_zero, List.drop_succ_cons, List.take_zero, List.take_succ_cons, Nat.zero_add, Nat.add_zero, Nat.reduceAdd, List.cons_append, List.nil_append, List.eraseIdx_cons_zero, List.eraseIdx_cons_succ])
    repeat (first | refine AI_seqk fun K hK => ?_ | refine AI_reg ?_ | ((first | refine wmv rfl ?_ | refine wag rfl ?_ | refine war _ rfl rfl rfl (by omega) (by omega) ?_ | refine wbn rfl rfl rfl ?_ | refine wnt rfl ?_ | refine wex rfl rfl ?_ | refine wpt rfl (by first | assumption | with_reducible rfl) rfl ?_ | refine wpf rfl (by first | assumption | with_reducible rfl) rfl ?_ | refine wpb rfl rfl rfl ?_ | refine wmf rfl ?_ | refine wnc rfl ?_ | refine wbq Try.underlying4 rfl rfl _ (.inr ⟨rfl, rfl⟩) ?_ | refine wbq Try.underlying4 rfl rfl _ (.inl ⟨rfl, rfl⟩) ?_); try dsimp only [st, List.set_cons_zero, List.set_cons_succ]) | ((first | refine AS_nil ?_ | refine AI_skip ?_ | refine AI_exit ?_); try simp only [AThen, ABlk, reduceIte, reduceCtorEq]) | ((first | refine hK _ _ ?_ | ((first | clear hK K | clear IH hK K); refine hK _ _ ?_) | ((first | clear hK K | clear IH hK K); (first | clear hK K | clear IH hK K); refine hK _ _ ?_) | ((first | clear hK K | clear IH hK K); (first | clear hK K | clear IH hK K); (first | clear hK K | clear IH hK K); refine hK _ _ ?_)); try (first | clear hK K | clear IH hK K)) | refine AI_cond_t rfl (by first | assumption | with_reducible rfl) ?_ | refine AI_cond_f rfl (by first | assumption | with_reducible rfl) ?_ | refine AS_gy rfl (by first | assumption | with_reducible rfl) ?_ | refine AS_gtn rfl (by first | assumption | with_reducible rfl) ?_ | refine AS_gfn rfl (by first | assumption | with_reducible rfl) ?_ | refine AI_block (AI_loop ?_) | refine AI_block ?_ | refine AI_ret ⟨_, rfl, ?_⟩)
    refine AS_op (OpR_call rfl rfl (hp y hmem _ hle) ?_)
    rintro _ h2 wf1 ⟨rfl, hle2⟩
    try (dsimp only [st, setL, AV.cells, List.set_cons_zero, List.set_cons_succ, List.drop_zero, List.drop_succ_cons, List.take_zero, List.take_succ_cons, Nat.zero_add, Nat.add_zero, Nat.reduceAdd, List.cons_append, List.nil_append, List.eraseIdx_cons_zero, List.eraseIdx_cons_succ])
    repeat (first | refine AI_seqk fun K hK => ?_ | refine AI_reg ?_ | ((first | refine wmv rfl ?_ | refine wag rfl ?_ | refine war _ rfl rfl rfl (by omega) (by omega) ?_ | refine wbn rfl rfl rfl ?_ | refine wnt rfl ?_ | refine wex rfl rfl ?_ | refine wpt rfl (by first | assumption | with_reducible rfl) rfl ?_ | refine wpf rfl (by first | assumption | with_reducible rfl) rfl ?_ | refine wpb rfl rfl rfl ?_ | refine wmf rfl ?_ | refine wnc rfl ?_ | refine wbq Try.underlying4 rfl rfl _ (.inr ⟨rfl, rfl⟩) ?_ | refine wbq Try.underlying4 rfl rfl _ (.inl ⟨rfl, rfl⟩) ?_); try dsimp only [st, List.set_cons_zero, List.set_cons_succ]) | ((first | refine AS_nil ?_ | refine AI_skip ?_ | refine AI_exit ?_); try simp only [AThen, ABlk, reduceIte, reduceCtorEq]) | ((first | refine hK _ _ ?_ | ((first | clear hK K | clear IH hK K); refine hK _ _ ?_) | ((first | clear hK K | clear IH hK K); (first | clear hK K | clear IH hK K); refine hK _ _ ?_) | ((first | clear hK K | clear IH hK K); (first | clear hK K | clear IH hK K); (first | clear hK K | clear IH hK K); refine hK _ _ ?_)); try (first | clear hK K | clear IH hK K)) | refine AI_cond_t rfl (by first | assumption | with_reducible rfl) ?_ | refine AI_cond_f rfl (by first | assumption | with_reducible rfl) ?_ | refine AS_gy rfl (by first | assumption | with_reducible rfl) ?_ | refine AS_gtn rfl (by first | assumption | with_reducible rfl) ?_ | refine AS_gfn rfl (by first | assumption | with_reducible rfl) ?_ | refine AI_block (AI_loop ?_) | refine AI_block ?_ | refine AI_ret ⟨_, rfl, ?_⟩)
    (first | refine AS_gt rfl ?_ ?_ | refine AS_gf rfl ?_ ?_ | refine AI_cond rfl ?_ ?_) <;> intro hc <;> have hc' := hc <;> try simp only [decide_eq_true_eq, decide_eq_false_iff_not, Bool.not_eq_true', Bool.not_eq_false', Bool.not_eq_true, Bool.not_eq_false, beq_iff_eq, bne_iff_ne, beq_eq_false_iff_ne, bne_eq_false_iff_eq, Int.not_lt, Int.not_le, ge_iff_le, gt_iff_lt, not_and, ne_eq, Decidable.not_not] at hc'
    all_goals
      repeat (first | refine AI_seqk fun K hK => ?_ | refine AI_reg ?_ | ((first | refine wmv rfl ?_ | refine wag rfl ?_ | refine war _ rfl rfl rfl (by omega) (by omega) ?_ | refine wbn rfl rfl rfl ?_ | refine wnt rfl ?_ | refine wex rfl rfl ?_ | refine wpt rfl (by first | assumption | with_reducible rfl) rfl ?_ | refine wpf rfl (by first | assumption | with_reducible rfl) rfl ?_ | refine wpb rfl rfl rfl ?_ | refine wmf rfl ?_ | refine wnc rfl ?_ | refine wbq Try.underlying4 rfl rfl _ (.inr ⟨rfl, rfl⟩) ?_ | refine wbq Try.underlying4 rfl rfl _ (.inl ⟨rfl, rfl⟩) ?_); try dsimp only [st, List.set_cons_zero, List.set_cons_succ]) | ((first | refine AS_nil ?_ | refine AI_skip ?_ | refine AI_exit ?_); try simp only [AThen, ABlk, reduceIte, reduceCtorEq]) | ((first | refine hK _ _ ?_ | ((first | clear hK K | clear IH hK K); refine hK _ _ ?_) | ((first | clear hK K | clear IH hK K); (first | clear hK K | clear IH hK K); refine hK _ _ ?_) | ((first | clear hK K | clear IH hK K); (first | clear hK K | clear IH hK K); (first | clear hK K | clear IH hK K); refine hK _ _ ?_)); try (first | clear hK K | clear IH hK K)) | refine AI_cond_t rfl (by first | assumption | with_reducible rfl) ?_ | refine AI_cond_f rfl (by first | assumption | with_reducible rfl) ?_ | refine AS_gy rfl (by first | assumption | with_reducible rfl) ?_ | refine AS_gtn rfl (by first | assumption | with_reducible rfl) ?_ | refine AS_gfn rfl (by first | assumption | with_reducible rfl) ?_ | refine AI_block (AI_loop ?_) | refine AI_block ?_ | refine AI_ret ⟨_, rfl, ?_⟩)
    · refine ⟨?_, hle.trans hle2⟩
      rw [hidx]
      simp [idxFrom, hc, oneA]
    · refine IH (n - 1) _ _ (by omega) ⟨i + 1, _, exJ rfl, by omega, by omega, hle.trans hle2, ?_⟩
      rw [hidx, toNat_succ h0]
      simp [idxFrom, hc]
  · refine ⟨?_, hle⟩
    rw [hidx, List.drop_eq_nil_of_le (by omega)]
    rfl

theorem ContainsFunc_int_ac (l : List Int) (v : AV) (g : FuncId) (caps : List AV) (p : Int → Bool) (h : AH) (hR : RdG 1 enI h v l) (hl : l.length ≤ 4611686018427387904)
    (hp : Pred Try.prog g caps (.i .i64) h p l) :
    AC Try.prog 105 [v, .f g caps] h (fun r h' => r = .b (l.any p) ∧ h.le h') := by
  refine e105 _ _ fun wf => ?_
  unfold c105
  repeat (first | refine AI_seqk fun K hK => ?_ | refine AI_reg ?_ | ((first | refine wmv rfl ?_ | refine wag rfl ?_ | refine war _ rfl rfl rfl (by omega) (by omega) ?_ | refine wbn rfl rfl rfl ?_ | refine wnt rfl ?_ | refine wex rfl rfl ?_ | refine wpt rfl (by first | assumption | with_reducible rfl) rfl ?_ | refine wpf rfl (by first | assumption | with_reducible rfl) rfl ?_ | refine wpb rfl rfl rfl ?_ | refine wmf rfl ?_ | refine wnc rfl ?_ | refine wbq Try.underlying4 rfl rfl _ (.inr ⟨rfl, rfl⟩) ?_ | refine wbq Try.underlying4 rfl rfl _ (.inl ⟨rfl, rfl⟩) ?_); try dsimp only [st, List.set_cons_zero, List.set_cons_succ]) | ((first | refine AS_nil ?_ | refine AI_skip ?_ | refine AI_exit ?_); try simp only [AThen, ABlk, reduceIte, reduceCtorEq]) | ((first | refine hK _ _ ?_ | ((first | clear hK K | clear IH hK K); refine hK _ _ ?_) | ((first | clear hK K | clear IH hK K); (first | clear hK K | clear IH hK K); refine hK _ _ ?_) | ((first | clear hK K | clear IH hK K); (first | clear hK K | clear IH hK K); (first | clear hK K | clear IH hK K); refine hK _ _ ?_)); try (first | clear hK K | clear IH hK K)) | refine AI_cond_t rfl (by first | assumption | with_reducible rfl) ?_ | refine AI_cond_f rfl (by first | assumption | with_reducible rfl) ?_ | refine AS_gy rfl (by first | assumption | with_reducible rfl) ?_ | refine AS_gtn rfl (by first | assumption | with_reducible rfl) ?_ | refine AS_gfn rfl (by first | assumption | with_reducible rfl) ?_ | refine AI_block (AI_loop ?_) | refine AI_block ?_ | refine AI_ret ⟨_, rfl, ?_⟩)
  refine AS_op (OpR_call rfl rfl (IndexFunc_int_ac l v g caps p _ hR hl hp) ?_)
  rintro _ h2 wf1 ⟨rfl, hle2⟩
  try (dsimp only [st, setL, AV.cells, List.set_cons_zero, List.set_cons_succ, List.drop_zero, List.drop_succ_cons, List.take_zero, List.take_succ_cons, Nat.zero_add, Nat.add_zero, Nat.reduceAdd, List.cons_append, List.nil_append, List.eraseIdx_cons_zero, List.eraseIdx_cons_succ])
  repeat (first | refine AI_seqk fun K hK => ?_ | refine AI_reg ?_ | ((first | refine wmv rfl ?_ | refine wag rfl ?_ | refine war _ rfl rfl rfl (by omega) (by omega) ?_ | refine wbn rfl rfl rfl ?_ | refine wnt rfl ?_ | refine wex rfl rfl ?_ | refine wpt rfl (by first | assumption | with_reducible rfl) rfl ?_ | refine wpf rfl (by first | assumption | with_reducible rfl) rfl ?_ | refine wpb rfl rfl rfl ?_ | refine wmf rfl ?_ | refine wnc rfl ?_ | refine wbq Try.underlying4 rfl rfl _ (.inr ⟨rfl, rfl⟩) ?_ | refine wbq Try.underlying4 rfl rfl _ (.inl ⟨rfl, rfl⟩) ?_); try dsimp only [st, List.set_cons_zero, List.set_cons_succ]) | ((first | refine AS_nil ?_ | refine AI_skip ?_ | refine AI_exit ?_); try simp only [AThen, ABlk, reduceIte, reduceCtorEq]) | ((first | refine hK _ _ ?_ | ((first | clear hK K | clear IH hK K); refine hK _ _ ?_) | ((first | clear hK K | clear IH hK K); (first | clear hK K | clear IH hK K); refine hK _ _ ?_) | ((first | clear hK K | clear IH hK K); (first | clear hK K | clear IH hK K); (first | clear hK K | clear IH hK K); refine hK _ _ ?_)); try (first | clear hK K | clear IH hK K)) | refine AI_cond_t rfl (by first | assumption | with_reducible rfl) ?_ | refine AI_cond_f rfl (by first | assumption | with_reducible rfl) ?_ | refine AS_gy rfl (by first | assumption | with_reducible rfl) ?_ | refine AS_gtn rfl (by first | assumption | with_reducible rfl) ?_ | refine AS_gfn rfl (by first | assumption | with_reducible rfl) ?_ | refine AI_block (AI_loop ?_) | refine AI_block ?_ | refine AI_ret ⟨_, rfl, ?_⟩)
  refine ⟨?_, hle2⟩
  simp only [oneA, ← idxFrom_any p l 0 (by omega), ge_iff_le]

theorem take_set {l : List Int} {i : Nat} {y : Int} (h : i < l.length) (hy : l[i]? = some y) :
    (l.take i ++ List.replicate (l.length - i) (0 : Int)).set i y = l.take (i + 1) ++ List.replicate (l.length - (i + 1)) (0 : Int) := by
  have h1 : (l.take i).length = i := by simp; omega
  rw [List.set_append_right _ _ (by omega), h1, Nat.sub_self, show l.length - i = (l.length - (i + 1)) + 1 by omega, List.replicate_succ, List.set_cons_zero, List.take_add_one, hy]
  simp

theorem rep0 (n : Nat) : List.replicate n (AV.i .i64 0) = (List.replicate n (0 : Int)).flatMap enI := by
  induction n with
  | zero => rfl
  | succ n ih => simp [List.replicate_succ, ih, enI]

theorem toIntS_own (l : List Int) (v : AV) (h : AH) (hR : Rd h v l) (hl : l.length ≤ 1048576) :
    AC Try.prog 43 [v] h (fun r h' => AL.Own h 1 enI h' r l) := by
  refine e43 _ fun wf => ?_
  unfold c43
  repeat (first | refine AI_seqk fun K hK => ?_ | refine AI_reg ?_ | ((first | refine wmv rfl ?_ | refine wag rfl ?_ | refine war _ rfl rfl rfl (by omega) (by omega) ?_ | refine wbn rfl rfl rfl ?_ | refine wnt rfl ?_ | refine wex rfl rfl ?_ | refine wpt rfl (by first | assumption | with_reducible rfl) rfl ?_ | refine wpf rfl (by first | assumption | with_reducible rfl) rfl ?_ | refine wpb rfl rfl rfl ?_ | refine wmf rfl ?_ | refine wnc rfl ?_ | refine wbq Try.underlying4 rfl rfl _ (.inr ⟨rfl, rfl⟩) ?_ | refine wbq Try.underlying4 rfl rfl _ (.inl ⟨rfl, rfl⟩) ?_); try dsimp only [st, List.set_cons_zero, List.set_cons_succ]) | ((first | refine AS_nil ?_ | refine AI_skip ?_ | refine AI_exit ?_); try simp only [AThen, ABlk, reduceIte, reduceCtorEq]) | ((first | refine hK _ _ ?_ | ((first | clear hK K | clear IH hK K); refine hK _ _ ?_) | ((first | clear hK K | clear IH hK K); (first | clear hK K | clear IH hK K); refine hK _ _ ?_) | ((first | clear hK K | clear IH hK K); (first | clear hK K | clear IH hK K); (first | clear hK K | clear IH hK K); refine hK _ _ ?_)); try (first | clear hK K | clear IH hK K)) | refine AI_cond_t rfl (by first | assumption | with_reducible rfl) ?_ | refine AI_cond_f rfl (by first | assumption | with_reducible rfl) ?_ | refine AS_gy rfl (by first | assumption | with_reducible rfl) ?_ | refine AS_gtn rfl (by first | assumption | with_reducible rfl) ?_ | refine AS_gfn rfl (by first | assumption | with_reducible rfl) ?_ | refine AI_block (AI_loop ?_) | refine AI_block ?_ | refine AI_ret ⟨_, rfl, ?_⟩)
  refine AS_op (OpR_lenA Try.underlying29 rfl hR.len ?_)
  try (dsimp only [st, setL, AV.cells, List.set_cons_zero, List.set_cons_succ, List.drop_zero, List.drop_succ_cons, List.take_zero, List.take_succ_cons, Nat.zero_add, Nat.add_zero, Nat.reduceAdd, List.cons_append, List.nil_append, List.eraseIdx_cons_zero, List.eraseIdx_cons_succ])
  repeat (first | refine AI_seqk fun K hK => ?_ | refine AI_reg ?_ | ((first | refine wmv rfl ?_ | refine wag rfl ?_ | refine war _ rfl rfl rfl (by omega) (by omega) ?_ | refine wbn rfl rfl rfl ?_ | refine wnt rfl ?_ | refine wex rfl rfl ?_ | refine wpt rfl (by first | assumption | with_reducible rfl) rfl ?_ | refine wpf rfl (by first | assumption | with_reducible rfl) rfl ?_ | refine wpb rfl rfl rfl ?_ | refine wmf rfl ?_ | refine wnc rfl ?_ | refine wbq Try.underlying4 rfl rfl _ (.inr ⟨rfl, rfl⟩) ?_ | refine wbq Try.underlying4 rfl rfl _ (.inl ⟨rfl, rfl⟩) ?_); try dsimp only [st, List.set_cons_zero, List.set_cons_succ]) | ((first | refine AS_nil ?_ | refine AI_skip ?_ | refine AI_exit ?_); try simp only [AThen, ABlk, reduceIte, reduceCtorEq]) | ((first | refine hK _ _ ?_ | ((first | clear hK K | clear IH hK K); refine hK _ _ ?_) | ((first | clear hK K | clear IH hK K); (first | clear hK K | clear IH hK K); refine hK _ _ ?_) | ((first | clear hK K | clear IH hK K); (first | clear hK K | clear IH hK K); (first | clear hK K | clear IH hK K); refine hK _ _ ?_)); try (first | clear hK K | clear IH hK K)) | refine AI_cond_t rfl (by first | assumption | with_reducible rfl) ?_ | refine AI_cond_f rfl (by first | assumption | with_reducible rfl) ?_ | refine AS_gy rfl (by first | assumption | with_reducible rfl) ?_ | refine AS_gtn rfl (by first | assumption | with_reducible rfl) ?_ | refine AS_gfn rfl (by first | assumption | with_reducible rfl) ?_ | refine AI_block (AI_loop ?_) | refine AI_block ?_ | refine AI_ret ⟨_, rfl, ?_⟩)
  refine AS_op (OpR_make Try.underlying29 sz3 by3 ze3 rfl rfl rfl rfl rfl (by omega) (by omega) (by omega) ?_)
  try (dsimp only [st, setL, AV.cells, List.set_cons_zero, List.set_cons_succ, List.drop_zero, List.drop_succ_cons, List.take_zero, List.take_succ_cons, Nat.zero_add, Nat.add_zero, Nat.reduceAdd, List.cons_append, List.nil_append, List.eraseIdx_cons_zero, List.eraseIdx_cons_succ])
  repeat (first | refine AI_seqk fun K hK => ?_ | refine AI_reg ?_ | ((first | refine wmv rfl ?_ | refine wag rfl ?_ | refine war _ rfl rfl rfl (by omega) (by omega) ?_ | refine wbn rfl rfl rfl ?_ | refine wnt rfl ?_ | refine wex rfl rfl ?_ | refine wpt rfl (by first | assumption | with_reducible rfl) rfl ?_ | refine wpf rfl (by first | assumption | with_reducible rfl) rfl ?_ | refine wpb rfl rfl rfl ?_ | refine wmf rfl ?_ | refine wnc rfl ?_ | refine wbq Try.underlying4 rfl rfl _ (.inr ⟨rfl, rfl⟩) ?_ | refine wbq Try.underlying4 rfl rfl _ (.inl ⟨rfl, rfl⟩) ?_); try dsimp only [st, List.set_cons_zero, List.set_cons_succ]) | ((first | refine AS_nil ?_ | refine AI_skip ?_ | refine AI_exit ?_); try simp only [AThen, ABlk, reduceIte, reduceCtorEq]) | ((first | refine hK _ _ ?_ | ((first | clear hK K | clear IH hK K); refine hK _ _ ?_) | ((first | clear hK K | clear IH hK K); (first | clear hK K | clear IH hK K); refine hK _ _ ?_) | ((first | clear hK K | clear IH hK K); (first | clear hK K | clear IH hK K); (first | clear hK K | clear IH hK K); refine hK _ _ ?_)); try (first | clear hK K | clear IH hK K)) | refine AI_cond_t rfl (by first | assumption | with_reducible rfl) ?_ | refine AI_cond_f rfl (by first | assumption | with_reducible rfl) ?_ | refine AS_gy rfl (by first | assumption | with_reducible rfl) ?_ | refine AS_gtn rfl (by first | assumption | with_reducible rfl) ?_ | refine AS_gfn rfl (by first | assumption | with_reducible rfl) ?_ | refine AI_block (AI_loop ?_) | refine AI_block ?_ | refine AI_ret ⟨_, rfl, ?_⟩)
  refine AIL_ind (fun (n : Nat) a h' => ∃ (i : Int), (∃ r : Nat → AV, a = [v, un, .ns, .sl h.cs.length 0 l.length true, .i .i64 i, r 5, r 6, r 7, r 8, r 9, r 10, r 11, r 12, r 13, r 14, r 15, r 16, r 17, r 18, r 19, r 20, r 21]) ∧ 0 ≤ i ∧ i + n = l.length ∧ Mut h 1 enI h' h.cs.length (l.take i.toNat ++ List.replicate (l.length - i.toNat) (0 : Int)))
    ?_ l.length _ _ ⟨0, exJ rfl, by omega, by omega, Mut.fresh wf (.refl h) wf _ (by simpa using rep0 l.length)⟩
  rintro n a h' ⟨i, ⟨r, rfl⟩, h0, hn, hM⟩ IH
  repeat (first | refine AI_seqk fun K hK => ?_ | refine AI_reg ?_ | ((first | refine wmv rfl ?_ | refine wag rfl ?_ | refine war _ rfl rfl rfl (by omega) (by omega) ?_ | refine wbn rfl rfl rfl ?_ | refine wnt rfl ?_ | refine wex rfl rfl ?_ | refine wpt rfl (by first | assumption | with_reducible rfl) rfl ?_ | refine wpf rfl (by first | assumption | with_reducible rfl) rfl ?_ | refine wpb rfl rfl rfl ?_ | refine wmf rfl ?_ | refine wnc rfl ?_ | refine wbq Try.underlying4 rfl rfl _ (.inr ⟨rfl, rfl⟩) ?_ | refine wbq Try.underlying4 rfl rfl _ (.inl ⟨rfl, rfl⟩) ?_); try dsimp only [st, List.set_cons_zero, List.set_cons_succ]) | ((first | refine AS_nil ?_ | refine AI_skip ?_ | refine AI_exit ?_); try simp only [AThen, ABlk, reduceIte, reduceCtorEq]) | ((first | refine hK _ _ ?_ | ((first | clear hK K | clear IH hK K); refine hK _ _ ?_) | ((first | clear hK K | clear IH hK K); (first | clear hK K | clear IH hK K); refine hK _ _ ?_) | ((first | clear hK K | clear IH hK K); (first | clear hK K | clear IH hK K); (first | clear hK K | clear IH hK K); refine hK _ _ ?_)); try (first | clear hK K | clear IH hK K)) | refine AI_cond_t rfl (by first | assumption | with_reducible rfl) ?_ | refine AI_cond_f rfl (by first | assumption | with_reducible rfl) ?_ | refine AS_gy rfl (by first | assumption | with_reducible rfl) ?_ | refine AS_gtn rfl (by first | assumption | with_reducible rfl) ?_ | refine AS_gfn rfl (by first | assumption | with_reducible rfl) ?_ | refine AI_block (AI_loop ?_) | refine AI_block ?_ | refine AI_ret ⟨_, rfl, ?_⟩)
  refine AS_op (OpR_lenA Try.underlying29 rfl hR.len ?_)
  try (dsimp only [st, setL, AV.cells, List.set_cons_zero, List.set_cons_succ, List.drop_zero, List.drop_succ_cons, List.take_zero, List.take_succ_cons, Nat.zero_add, Nat.add_zero, Nat.reduceAdd, List.cons_append, List.nil_append, List.eraseIdx_cons_zero, List.eraseIdx_cons_succ])
  repeat (first | refine AI_seqk fun K hK => ?_ | refine AI_reg ?_ | ((first | refine wmv rfl ?_ | refine wag rfl ?_ | refine war _ rfl rfl rfl (by omega) (by omega) ?_ | refine wbn rfl rfl rfl ?_ | refine wnt rfl ?_ | refine wex rfl rfl ?_ | refine wpt rfl (by first | assumption | with_reducible rfl) rfl ?_ | refine wpf rfl (by first | assumption | with_reducible rfl) rfl ?_ | refine wpb rfl rfl rfl ?_ | refine wmf rfl ?_ | refine wnc rfl ?_ | refine wbq Try.underlying4 rfl rfl _ (.inr ⟨rfl, rfl⟩) ?_ | refine wbq Try.underlying4 rfl rfl _ (.inl ⟨rfl, rfl⟩) ?_); try dsimp only [st, List.set_cons_zero, List.set_cons_succ]) | ((first | refine AS_nil ?_ | refine AI_skip ?_ | refine AI_exit ?_); try simp only [AThen, ABlk, reduceIte, reduceCtorEq]) | ((first | refine hK _ _ ?_ | ((first | clear hK K | clear IH hK K); refine hK _ _ ?_) | ((first | clear hK K | clear IH hK K); (first | clear hK K | clear IH hK K); refine hK _ _ ?_) | ((first | clear hK K | clear IH hK K); (first | clear hK K | clear IH hK K); (first | clear hK K | clear IH hK K); refine hK _ _ ?_)); try (first | clear hK K | clear IH hK K)) | refine AI_cond_t rfl (by first | assumption | with_reducible rfl) ?_ | refine AI_cond_f rfl (by first | assumption | with_reducible rfl) ?_ | refine AS_gy rfl (by first | assumption | with_reducible rfl) ?_ | refine AS_gtn rfl (by first | assumption | with_reducible rfl) ?_ | refine AS_gfn rfl (by first | assumption | with_reducible rfl) ?_ | refine AI_block (AI_loop ?_) | refine AI_block ?_ | refine AI_ret ⟨_, rfl, ?_⟩)
  (first | refine AS_gt rfl ?_ ?_ | refine AS_gf rfl ?_ ?_ | refine AI_cond rfl ?_ ?_) <;> intro hc <;> have hc' := hc <;> try simp only [decide_eq_true_eq, decide_eq_false_iff_not, Bool.not_eq_true', Bool.not_eq_false', Bool.not_eq_true, Bool.not_eq_false, beq_iff_eq, bne_iff_ne, beq_eq_false_iff_ne, bne_eq_false_iff_eq, Int.not_lt, Int.not_le, ge_iff_le, gt_iff_lt, not_and, ne_eq, Decidable.not_not] at hc'
  all_goals
    repeat (first | refine AI_seqk fun K hK => ?_ | refine AI_reg ?_ | ((first | refine wmv rfl ?_ | refine wag rfl ?_ | refine war _ rfl rfl rfl (by omega) (by omega) ?_ | refine wbn rfl rfl rfl ?_ | refine wnt rfl ?_ | refine wex rfl rfl ?_ | refine wpt rfl (by first | assumption | with_reducible rfl) rfl ?_ | refine wpf rfl (by first | assumption | with_reducible rfl) rfl ?_ | refine wpb rfl rfl rfl ?_ | refine wmf rfl ?_ | refine wnc rfl ?_ | refine wbq Try.underlying4 rfl rfl _ (.inr ⟨rfl, rfl⟩) ?_ | refine wbq Try.underlying4 rfl rfl _ (.inl ⟨rfl, rfl⟩) ?_); try dsimp only [st, List.set_cons_zero, List.set_cons_succ]) | ((first | refine AS_nil ?_ | refine AI_skip ?_ | refine AI_exit ?_); try simp only [AThen, ABlk, reduceIte, reduceCtorEq]) | ((first | refine hK _ _ ?_ | ((first | clear hK K | clear IH hK K); refine hK _ _ ?_) | ((first | clear hK K | clear IH hK K); (first | clear hK K | clear IH hK K); refine hK _ _ ?_) | ((first | clear hK K | clear IH hK K); (first | clear hK K | clear IH hK K); (first | clear hK K | clear IH hK K); refine hK _ _ ?_)); try (first | clear hK K | clear IH hK K)) | refine AI_cond_t rfl (by first | assumption | with_reducible rfl) ?_ | refine AI_cond_f rfl (by first | assumption | with_reducible rfl) ?_ | refine AS_gy rfl (by first | assumption | with_reducible rfl) ?_ | refine AS_gtn rfl (by first | assumption | with_reducible rfl) ?_ | refine AS_gfn rfl (by first | assumption | with_reducible rfl) ?_ | refine AI_block (AI_loop ?_) | refine AI_block ?_ | refine AI_ret ⟨_, rfl, ?_⟩)
  · obtain ⟨y, hy, _, _⟩ := drop_at h0 hc'
    refine AS_op (OpR_idx Try.underlying29 sz3 rfl rfl (hR.le hM.le) (fun _ => rfl) h0 hy fun b o hrow => ?_)
    try (dsimp only [st, setL, AV.cells, List.set_cons_zero, List.set_cons_succ, List.drop_zero, List.drop_succ_cons, List.take_zero, List.take_succ_cons, Nat.zero_add, Nat.add_zero, Nat.reduceAdd, List.cons_append, List.nil_append, List.eraseIdx_cons_zero, List.eraseIdx_cons_succ])
    repeat (first | refine AI_seqk fun K hK => ?_ | refine AI_reg ?_ | ((first | refine wmv rfl ?_ | refine wag rfl ?_ | refine war _ rfl rfl rfl (by omega) (by omega) ?_ | refine wbn rfl rfl rfl ?_ | refine wnt rfl ?_ | refine wex rfl rfl ?_ | refine wpt rfl (by first | assumption | with_reducible rfl) rfl ?_ | refine wpf rfl (by first | assumption | with_reducible rfl) rfl ?_ | refine wpb rfl rfl rfl ?_ | refine wmf rfl ?_ | refine wnc rfl ?_ | refine wbq Try.underlying4 rfl rfl _ (.inr ⟨rfl, rfl⟩) ?_ | refine wbq Try.underlying4 rfl rfl _ (.inl ⟨rfl, rfl⟩) ?_); try dsimp only [st, List.set_cons_zero, List.set_cons_succ]) | ((first | refine AS_nil ?_ | refine AI_skip ?_ | refine AI_exit ?_); try simp only [AThen, ABlk, reduceIte, reduceCtorEq]) | ((first | refine hK _ _ ?_ | ((first | clear hK K | clear IH hK K); refine hK _ _ ?_) | ((first | clear hK K | clear IH hK K); (first | clear hK K | clear IH hK K); refine hK _ _ ?_) | ((first | clear hK K | clear IH hK K); (first | clear hK K | clear IH hK K); (first | clear hK K | clear IH hK K); refine hK _ _ ?_)); try (first | clear hK K | clear IH hK K)) | refine AI_cond_t rfl (by first | assumption | with_reducible rfl) ?_ | refine AI_cond_f rfl (by first | assumption | with_reducible rfl) ?_ | refine AS_gy rfl (by first | assumption | with_reducible rfl) ?_ | refine AS_gtn rfl (by first | assumption | with_reducible rfl) ?_ | refine AS_gfn rfl (by first | assumption | with_reducible rfl) ?_ | refine AI_block (AI_loop ?_) | refine AI_block ?_ | refine AI_ret ⟨_, rfl, ?_⟩)
    refine AS_op (OpR_load rfl (loadA_1 ag3 (cell_row hrow)) ?_)
    try (dsimp only [st, setL, AV.cells, List.set_cons_zero, List.set_cons_succ, List.drop_zero, List.drop_succ_cons, List.take_zero, List.take_succ_cons, Nat.zero_add, Nat.add_zero, Nat.reduceAdd, List.cons_append, List.nil_append, List.eraseIdx_cons_zero, List.eraseIdx_cons_succ])
    repeat (first | refine AI_seqk fun K hK => ?_ | refine AI_reg ?_ | ((first | refine wmv rfl ?_ | refine wag rfl ?_ | refine war _ rfl rfl rfl (by omega) (by omega) ?_ | refine wbn rfl rfl rfl ?_ | refine wnt rfl ?_ | refine wex rfl rfl ?_ | refine wpt rfl (by first | assumption | with_reducible rfl) rfl ?_ | refine wpf rfl (by first | assumption | with_reducible rfl) rfl ?_ | refine wpb rfl rfl rfl ?_ | refine wmf rfl ?_ | refine wnc rfl ?_ | refine wbq Try.underlying4 rfl rfl _ (.inr ⟨rfl, rfl⟩) ?_ | refine wbq Try.underlying4 rfl rfl _ (.inl ⟨rfl, rfl⟩) ?_); try dsimp only [st, List.set_cons_zero, List.set_cons_succ]) | ((first | refine AS_nil ?_ | refine AI_skip ?_ | refine AI_exit ?_); try simp only [AThen, ABlk, reduceIte, reduceCtorEq]) | ((first | refine hK _ _ ?_ | ((first | clear hK K | clear IH hK K); refine hK _ _ ?_) | ((first | clear hK K | clear IH hK K); (first | clear hK K | clear IH hK K); refine hK _ _ ?_) | ((first | clear hK K | clear IH hK K); (first | clear hK K | clear IH hK K); (first | clear hK K | clear IH hK K); refine hK _ _ ?_)); try (first | clear hK K | clear IH hK K)) | refine AI_cond_t rfl (by first | assumption | with_reducible rfl) ?_ | refine AI_cond_f rfl (by first | assumption | with_reducible rfl) ?_ | refine AS_gy rfl (by first | assumption | with_reducible rfl) ?_ | refine AS_gtn rfl (by first | assumption | with_reducible rfl) ?_ | refine AS_gfn rfl (by first | assumption | with_reducible rfl) ?_ | refine AI_block (AI_loop ?_) | refine AI_block ?_ | refine AI_ret ⟨_, rfl, ?_⟩)
    refine AS_op (OpR_idxs Try.underlying29 sz3 rfl rfl h0 hc' ?_)
    try (dsimp only [st, setL, AV.cells, List.set_cons_zero, List.set_cons_succ, List.drop_zero, List.drop_succ_cons, List.take_zero, List.take_succ_cons, Nat.zero_add, Nat.add_zero, Nat.reduceAdd, List.cons_append, List.nil_append, List.eraseIdx_cons_zero, List.eraseIdx_cons_succ])
    repeat (first | refine AI_seqk fun K hK => ?_ | refine AI_reg ?_ | ((first | refine wmv rfl ?_ | refine wag rfl ?_ | refine war _ rfl rfl rfl (by omega) (by omega) ?_ | refine wbn rfl rfl rfl ?_ | refine wnt rfl ?_ | refine wex rfl rfl ?_ | refine wpt rfl (by first | assumption | with_reducible rfl) rfl ?_ | refine wpf rfl (by first | assumption | with_reducible rfl) rfl ?_ | refine wpb rfl rfl rfl ?_ | refine wmf rfl ?_ | refine wnc rfl ?_ | refine wbq Try.underlying4 rfl rfl _ (.inr ⟨rfl, rfl⟩) ?_ | refine wbq Try.underlying4 rfl rfl _ (.inl ⟨rfl, rfl⟩) ?_); try dsimp only [st, List.set_cons_zero, List.set_cons_succ]) | ((first | refine AS_nil ?_ | refine AI_skip ?_ | refine AI_exit ?_); try simp only [AThen, ABlk, reduceIte, reduceCtorEq]) | ((first | refine hK _ _ ?_ | ((first | clear hK K | clear IH hK K); refine hK _ _ ?_) | ((first | clear hK K | clear IH hK K); (first | clear hK K | clear IH hK K); refine hK _ _ ?_) | ((first | clear hK K | clear IH hK K); (first | clear hK K | clear IH hK K); (first | clear hK K | clear IH hK K); refine hK _ _ ?_)); try (first | clear hK K | clear IH hK K)) | refine AI_cond_t rfl (by first | assumption | with_reducible rfl) ?_ | refine AI_cond_f rfl (by first | assumption | with_reducible rfl) ?_ | refine AS_gy rfl (by first | assumption | with_reducible rfl) ?_ | refine AS_gtn rfl (by first | assumption | with_reducible rfl) ?_ | refine AS_gfn rfl (by first | assumption | with_reducible rfl) ?_ | refine AI_block (AI_loop ?_) | refine AI_block ?_ | refine AI_ret ⟨_, rfl, ?_⟩)
    refine AS_op (OpR_storeM rfl rfl sz3 enI1 hM (z := y) (i := i.toNat) (by simp; omega) (by omega) rfl rfl fun h2 row _ hM2 => ?_)
    try (dsimp only [st, setL, AV.cells, List.set_cons_zero, List.set_cons_succ, List.drop_zero, List.drop_succ_cons, List.take_zero, List.take_succ_cons, Nat.zero_add, Nat.add_zero, Nat.reduceAdd, List.cons_append, List.nil_append, List.eraseIdx_cons_zero, List.eraseIdx_cons_succ])
    repeat (first | refine AI_seqk fun K hK => ?_ | refine AI_reg ?_ | ((first | refine wmv rfl ?_ | refine wag rfl ?_ | refine war _ rfl rfl rfl (by omega) (by omega) ?_ | refine wbn rfl rfl rfl ?_ | refine wnt rfl ?_ | refine wex rfl rfl ?_ | refine wpt rfl (by first | assumption | with_reducible rfl) rfl ?_ | refine wpf rfl (by first | assumption | with_reducible rfl) rfl ?_ | refine wpb rfl rfl rfl ?_ | refine wmf rfl ?_ | refine wnc rfl ?_ | refine wbq Try.underlying4 rfl rfl _ (.inr ⟨rfl, rfl⟩) ?_ | refine wbq Try.underlying4 rfl rfl _ (.inl ⟨rfl, rfl⟩) ?_); try dsimp only [st, List.set_cons_zero, List.set_cons_succ]) | ((first | refine AS_nil ?_ | refine AI_skip ?_ | refine AI_exit ?_); try simp only [AThen, ABlk, reduceIte, reduceCtorEq]) | ((first | refine hK _ _ ?_ | ((first | clear hK K | clear IH hK K); refine hK _ _ ?_) | ((first | clear hK K | clear IH hK K); (first | clear hK K | clear IH hK K); refine hK _ _ ?_) | ((first | clear hK K | clear IH hK K); (first | clear hK K | clear IH hK K); (first | clear hK K | clear IH hK K); refine hK _ _ ?_)); try (first | clear hK K | clear IH hK K)) | refine AI_cond_t rfl (by first | assumption | with_reducible rfl) ?_ | refine AI_cond_f rfl (by first | assumption | with_reducible rfl) ?_ | refine AS_gy rfl (by first | assumption | with_reducible rfl) ?_ | refine AS_gtn rfl (by first | assumption | with_reducible rfl) ?_ | refine AS_gfn rfl (by first | assumption | with_reducible rfl) ?_ | refine AI_block (AI_loop ?_) | refine AI_block ?_ | refine AI_ret ⟨_, rfl, ?_⟩)
    rw [take_set (by omega) hy] at hM2
    refine IH (n - 1) _ _ (by omega) ⟨i + 1, exJ rfl, by omega, by omega, ?_⟩
    rw [toNat_succ h0]
    exact hM2
  · have e : i.toNat = l.length := by omega
    rw [e] at hM
    simp at hM
    exact hM.own enI1 true rfl

theorem eqIntS_ac (l l' : List Int) (v v' : AV) (h : AH) (hR : Rd h v l) (hR' : Rd h v' l') (hl : l.length ≤ 4611686018427387904) :
    AC Try.prog 45 [v, v'] h (fun r h' => r = .b (decide (l = l')) ∧ h = h') := by
  refine e45 _ _ fun wf => ?_
  unfold c45
  repeat (first | refine AI_seqk fun K hK => ?_ | refine AI_reg ?_ | ((first | refine wmv rfl ?_ | refine wag rfl ?_ | refine war _ rfl rfl rfl (by omega) (by omega) ?_ | refine wbn rfl rfl rfl ?_ | refine wnt rfl ?_ | refine wex rfl rfl ?_ | refine wpt rfl (by first | assumption | with_reducible rfl) rfl ?_ | refine wpf rfl (by first | assumption | with_reducible rfl) rfl ?_ | refine wpb rfl rfl rfl ?_ | refine wmf rfl ?_ | refine wnc rfl ?_ | refine wbq Try.underlying4 rfl rfl _ (.inr ⟨rfl, rfl⟩) ?_ | refine wbq Try.underlying4 rfl rfl _ (.inl ⟨rfl, rfl⟩) ?_); try dsimp only [st, List.set_cons_zero, List.set_cons_succ]) | ((first | refine AS_nil ?_ | refine AI_skip ?_ | refine AI_exit ?_); try simp only [AThen, ABlk, reduceIte, reduceCtorEq]) | ((first | refine hK _ _ ?_ | ((first | clear hK K | clear IH hK K); refine hK _ _ ?_) | ((first | clear hK K | clear IH hK K); (first | clear hK K | clear IH hK K); refine hK _ _ ?_) | ((first | clear hK K | clear IH hK K); (first | clear hK K | clear IH hK K); (first | clear hK K | clear IH hK K); refine hK _ _ ?_)); try (first | clear hK K | clear IH hK K)) | refine AI_cond_t rfl (by first | assumption | with_reducible rfl) ?_ | refine AI_cond_f rfl (by first | assumption | with_reducible rfl) ?_ | refine AS_gy rfl (by first | assumption | with_reducible rfl) ?_ | refine AS_gtn rfl (by first | assumption | with_reducible rfl) ?_ | refine AS_gfn rfl (by first | assumption | with_reducible rfl) ?_ | refine AI_block (AI_loop ?_) | refine AI_block ?_ | refine AI_ret ⟨_, rfl, ?_⟩)
  refine AS_op (OpR_lenA Try.underlying29 rfl hR.len ?_)
  try (dsimp only [st, setL, AV.cells, List.set_cons_zero, List.set_cons_succ, List.drop_zero, List.drop_succ_cons, List.take_zero, List.take_succ_cons, Nat.zero_add, Nat.add_zero, Nat.reduceAdd, List.cons_append, List.nil_append, List.eraseIdx_cons_zero, List.eraseIdx_cons_succ])
  repeat (first | refine AI_seqk fun K hK => ?_ | refine AI_reg ?_ | ((first | refine wmv rfl ?_ | refine wag rfl ?_ | refine war _ rfl rfl rfl (by omega) (by omega) ?_ | refine wbn rfl rfl rfl ?_ | refine wnt rfl ?_ | refine wex rfl rfl ?_ | refine wpt rfl (by first | assumption | with_reducible rfl) rfl ?_ | refine wpf rfl (by first | assumption | with_reducible rfl) rfl ?_ | refine wpb rfl rfl rfl ?_ | refine wmf rfl ?_ | refine wnc rfl ?_ | refine wbq Try.underlying4 rfl rfl _ (.inr ⟨rfl, rfl⟩) ?_ | refine wbq Try.underlying4 rfl rfl _ (.inl ⟨rfl, rfl⟩) ?_); try dsimp only [st, List.set_cons_zero, List.set_cons_succ]) | ((first | refine AS_nil ?_ | refine AI_skip ?_ | refine AI_exit ?_); try simp only [AThen, ABlk, reduceIte, reduceCtorEq]) | ((first | refine hK _ _ ?_ | ((first | clear hK K | clear IH hK K); refine hK _ _ ?_) | ((first | clear hK K | clear IH hK K); (first | clear hK K | clear IH hK K); refine hK _ _ ?_) | ((first | clear hK K | clear IH hK K); (first | clear hK K | clear IH hK K); (first | clear hK K | clear IH hK K); refine hK _ _ ?_)); try (first | clear hK K | clear IH hK K)) | refine AI_cond_t rfl (by first | assumption | with_reducible rfl) ?_ | refine AI_cond_f rfl (by first | assumption | with_reducible rfl) ?_ | refine AS_gy rfl (by first | assumption | with_reducible rfl) ?_ | refine AS_gtn rfl (by first | assumption | with_reducible rfl) ?_ | refine AS_gfn rfl (by first | assumption | with_reducible rfl) ?_ | refine AI_block (AI_loop ?_) | refine AI_block ?_ | refine AI_ret ⟨_, rfl, ?_⟩)
  refine AS_op (OpR_lenA Try.underlying29 rfl hR'.len ?_)
  try (dsimp only [st, setL, AV.cells, List.set_cons_zero, List.set_cons_succ, List.drop_zero, List.drop_succ_cons, List.take_zero, List.take_succ_cons, Nat.zero_add, Nat.add_zero, Nat.reduceAdd, List.cons_append, List.nil_append, List.eraseIdx_cons_zero, List.eraseIdx_cons_succ])
  repeat (first | refine AI_seqk fun K hK => ?_ | refine AI_reg ?_ | ((first | refine wmv rfl ?_ | refine wag rfl ?_ | refine war _ rfl rfl rfl (by omega) (by omega) ?_ | refine wbn rfl rfl rfl ?_ | refine wnt rfl ?_ | refine wex rfl rfl ?_ | refine wpt rfl (by first | assumption | with_reducible rfl) rfl ?_ | refine wpf rfl (by first | assumption | with_reducible rfl) rfl ?_ | refine wpb rfl rfl rfl ?_ | refine wmf rfl ?_ | refine wnc rfl ?_ | refine wbq Try.underlying4 rfl rfl _ (.inr ⟨rfl, rfl⟩) ?_ | refine wbq Try.underlying4 rfl rfl _ (.inl ⟨rfl, rfl⟩) ?_); try dsimp only [st, List.set_cons_zero, List.set_cons_succ]) | ((first | refine AS_nil ?_ | refine AI_skip ?_ | refine AI_exit ?_); try simp only [AThen, ABlk, reduceIte, reduceCtorEq]) | ((first | refine hK _ _ ?_ | ((first | clear hK K | clear IH hK K); refine hK _ _ ?_) | ((first | clear hK K | clear IH hK K); (first | clear hK K | clear IH hK K); refine hK _ _ ?_) | ((first | clear hK K | clear IH hK K); (first | clear hK K | clear IH hK K); (first | clear hK K | clear IH hK K); refine hK _ _ ?_)); try (first | clear hK K | clear IH hK K)) | refine AI_cond_t rfl (by first | assumption | with_reducible rfl) ?_ | refine AI_cond_f rfl (by first | assumption | with_reducible rfl) ?_ | refine AS_gy rfl (by first | assumption | with_reducible rfl) ?_ | refine AS_gtn rfl (by first | assumption | with_reducible rfl) ?_ | refine AS_gfn rfl (by first | assumption | with_reducible rfl) ?_ | refine AI_block (AI_loop ?_) | refine AI_block ?_ | refine AI_ret ⟨_, rfl, ?_⟩)
  (first | refine AS_gt rfl ?_ ?_ | refine AS_gf rfl ?_ ?_ | refine AI_cond rfl ?_ ?_) <;> intro hc <;> have hc' := hc <;> try simp only [decide_eq_true_eq, decide_eq_false_iff_not, Bool.not_eq_true', Bool.not_eq_false', Bool.not_eq_true, Bool.not_eq_false, beq_iff_eq, bne_iff_ne, beq_eq_false_iff_ne, bne_eq_false_iff_eq, Int.not_lt, Int.not_le, ge_iff_le, gt_iff_lt, not_and, ne_eq, Decidable.not_not] at hc'
  all_goals
    repeat (first | refine AI_seqk fun K hK => ?_ | refine AI_reg ?_ | ((first | refine wmv rfl ?_ | refine wag rfl ?_ | refine war _ rfl rfl rfl (by omega) (by omega) ?_ | refine wbn rfl rfl rfl ?_ | refine wnt rfl ?_ | refine wex rfl rfl ?_ | refine wpt rfl (by first | assumption | with_reducible rfl) rfl ?_ | refine wpf rfl (by first | assumption | with_reducible rfl) rfl ?_ | refine wpb rfl rfl rfl ?_ | refine wmf rfl ?_ | refine wnc rfl ?_ | refine wbq Try.underlying4 rfl rfl _ (.inr ⟨rfl, rfl⟩) ?_ | refine wbq Try.underlying4 rfl rfl _ (.inl ⟨rfl, rfl⟩) ?_); try dsimp only [st, List.set_cons_zero, List.set_cons_succ]) | ((first | refine AS_nil ?_ | refine AI_skip ?_ | refine AI_exit ?_); try simp only [AThen, ABlk, reduceIte, reduceCtorEq]) | ((first | refine hK _ _ ?_ | ((first | clear hK K | clear IH hK K); refine hK _ _ ?_) | ((first | clear hK K | clear IH hK K); (first | clear hK K | clear IH hK K); refine hK _ _ ?_) | ((first | clear hK K | clear IH hK K); (first | clear hK K | clear IH hK K); (first | clear hK K | clear IH hK K); refine hK _ _ ?_)); try (first | clear hK K | clear IH hK K)) | refine AI_cond_t rfl (by first | assumption | with_reducible rfl) ?_ | refine AI_cond_f rfl (by first | assumption | with_reducible rfl) ?_ | refine AS_gy rfl (by first | assumption | with_reducible rfl) ?_ | refine AS_gtn rfl (by first | assumption | with_reducible rfl) ?_ | refine AS_gfn rfl (by first | assumption | with_reducible rfl) ?_ | refine AI_block (AI_loop ?_) | refine AI_block ?_ | refine AI_ret ⟨_, rfl, ?_⟩)
  · refine ⟨?_, rfl⟩
    simp only [oneA, AV.b.injEq]
    symm
    simp
    intro e
    subst e
    exact hc' rfl
  · have hlen : l.length = l'.length := by omega
    refine AIL_ind (fun (n : Nat) a h' => ∃ (i : Int), (∃ r : Nat → AV, a = [v, v', un, un, .b false, .i .i64 i, r 6, r 7, r 8, r 9, r 10, r 11, r 12, r 13, r 14, r 15, r 16, r 17, r 18, r 19, r 20, r 21, r 22, r 23, r 24, r 25]) ∧ 0 ≤ i ∧ i + n = l.length ∧ h = h' ∧ l.take i.toNat = l'.take i.toNat)
      ?_ l.length _ _ ⟨0, exJ rfl, by omega, by omega, rfl, by simp⟩
    rintro n a h' ⟨i, ⟨r, rfl⟩, h0, hn, rfl, heq⟩ IH
    repeat (first | refine AI_seqk fun K hK => ?_ | refine AI_reg ?_ | ((first | refine wmv rfl ?_ | refine wag rfl ?_ | refine war _ rfl rfl rfl (by omega) (by omega) ?_ | refine wbn rfl rfl rfl ?_ | refine wnt rfl ?_ | refine wex rfl rfl ?_ | refine wpt rfl (by first | assumption | with_reducible rfl) rfl ?_ | refine wpf rfl (by first | assumption | with_reducible rfl) rfl ?_ | refine wpb rfl rfl rfl ?_ | refine wmf rfl ?_ | refine wnc rfl ?_ | refine wbq Try.underlying4 rfl rfl _ (.inr ⟨rfl, rfl⟩) ?_ | refine wbq Try.underlying4 rfl rfl _ (.inl ⟨rfl, rfl⟩) ?_); try dsimp only [st, List.set_cons_zero, List.set_cons_succ]) | ((first | refine AS_nil ?_ | refine AI_skip ?_ | refine AI_exit ?_); try simp only [AThen, ABlk, reduceIte, reduceCtorEq]) | ((first | refine hK _ _ ?_ | ((first | clear hK K | clear IH hK K); refine hK _ _ ?_) | ((first | clear hK K | clear IH hK K); (first | clear hK K | clear IH hK K); refine hK _ _ ?_) | ((first | clear hK K | clear IH hK K); (first | clear hK K | clear IH hK K); (first | clear hK K | clear IH hK K); refine hK _ _ ?_)); try (first | clear hK K | clear IH hK K)) | refine AI_cond_t rfl (by first | assumption | with_reducible rfl) ?_ | refine AI_cond_f rfl (by first | assumption | with_reducible rfl) ?_ | refine AS_gy rfl (by first | assumption | with_reducible rfl) ?_ | refine AS_gtn rfl (by first | assumption | with_reducible rfl) ?_ | refine AS_gfn rfl (by first | assumption | with_reducible rfl) ?_ | refine AI_block (AI_loop ?_) | refine AI_block ?_ | refine AI_ret ⟨_, rfl, ?_⟩)
    refine AS_op (OpR_lenA Try.underlying29 rfl hR.len ?_)
    try (dsimp only [st, setL, AV.cells, List.set_cons_zero, List.set_cons_succ, List.drop_zero, List.drop_succ_cons, List.take_zero, List.take_succ_cons, Nat.zero_add, Nat.add_zero, Nat.reduceAdd, List.cons_append, List.nil_append, List.eraseIdx_cons_zero, List.eraseIdx_cons_succ])
    repeat (first | refine AI_seqk fun K hK => ?_ | refine AI_reg ?_ | ((first | refine wmv rfl ?_ | refine wag rfl ?_ | refine war _ rfl rfl rfl (by omega) (by omega) ?_ | refine wbn rfl rfl rfl ?_ | refine wnt rfl ?_ | refine wex rfl rfl ?_ | refine wpt rfl (by first | assumption | with_reducible rfl) rfl ?_ | refine wpf rfl (by first | assumption | with_reducible rfl) rfl ?_ | refine wpb rfl rfl rfl ?_ | refine wmf rfl ?_ | refine wnc rfl ?_ | refine wbq Try.underlying4 rfl rfl _ (.inr ⟨rfl, rfl⟩) ?_ | refine wbq Try.underlying4 rfl rfl _ (.inl ⟨rfl, rfl⟩) ?_); try dsimp only [st, List.set_cons_zero, List.set_cons_succ]) | ((first | refine AS_nil ?_ | refine AI_skip ?_ | refine AI_exit ?_); try simp only [AThen, ABlk, reduceIte, reduceCtorEq]) | ((first | refine hK _ _ ?_ | ((first | clear hK K | clear IH hK K); refine hK _ _ ?_) | ((first | clear hK K | clear IH hK K); (first | clear hK K | clear IH hK K); refine hK _ _ ?_) | ((first | clear hK K | clear IH hK K); (first | clear hK K | clear IH hK K); (first | clear hK K | clear IH hK K); refine hK _ _ ?_)); try (first | clear hK K | clear IH hK K)) | refine AI_cond_t rfl (by first | assumption | with_reducible rfl) ?_ | refine AI_cond_f rfl (by first | assumption | with_reducible rfl) ?_ | refine AS_gy rfl (by first | assumption | with_reducible rfl) ?_ | refine AS_gtn rfl (by first | assumption | with_reducible rfl) ?_ | refine AS_gfn rfl (by first | assumption | with_reducible rfl) ?_ | refine AI_block (AI_loop ?_) | refine AI_block ?_ | refine AI_ret ⟨_, rfl, ?_⟩)
    (first | refine AS_gt rfl ?_ ?_ | refine AS_gf rfl ?_ ?_ | refine AI_cond rfl ?_ ?_) <;> intro hc <;> have hc' := hc <;> try simp only [decide_eq_true_eq, decide_eq_false_iff_not, Bool.not_eq_true', Bool.not_eq_false', Bool.not_eq_true, Bool.not_eq_false, beq_iff_eq, bne_iff_ne, beq_eq_false_iff_ne, bne_eq_false_iff_eq, Int.not_lt, Int.not_le, ge_iff_le, gt_iff_lt, not_and, ne_eq, Decidable.not_not] at hc'
    all_goals
      repeat (first | refine AI_seqk fun K hK => ?_ | refine AI_reg ?_ | ((first | refine wmv rfl ?_ | refine wag rfl ?_ | refine war _ rfl rfl rfl (by omega) (by omega) ?_ | refine wbn rfl rfl rfl ?_ | refine wnt rfl ?_ | refine wex rfl rfl ?_ | refine wpt rfl (by first | assumption | with_reducible rfl) rfl ?_ | refine wpf rfl (by first | assumption | with_reducible rfl) rfl ?_ | refine wpb rfl rfl rfl ?_ | refine wmf rfl ?_ | refine wnc rfl ?_ | refine wbq Try.underlying4 rfl rfl _ (.inr ⟨rfl, rfl⟩) ?_ | refine wbq Try.underlying4 rfl rfl _ (.inl ⟨rfl, rfl⟩) ?_); try dsimp only [st, List.set_cons_zero, List.set_cons_succ]) | ((first | refine AS_nil ?_ | refine AI_skip ?_ | refine AI_exit ?_); try simp only [AThen, ABlk, reduceIte, reduceCtorEq]) | ((first | refine hK _ _ ?_ | ((first | clear hK K | clear IH hK K); refine hK _ _ ?_) | ((first | clear hK K | clear IH hK K); (first | clear hK K | clear IH hK K); refine hK _ _ ?_) | ((first | clear hK K | clear IH hK K); (first | clear hK K | clear IH hK K); (first | clear hK K | clear IH hK K); refine hK _ _ ?_)); try (first | clear hK K | clear IH hK K)) | refine AI_cond_t rfl (by first | assumption | with_reducible rfl) ?_ | refine AI_cond_f rfl (by first | assumption | with_reducible rfl) ?_ | refine AS_gy rfl (by first | assumption | with_reducible rfl) ?_ | refine AS_gtn rfl (by first | assumption | with_reducible rfl) ?_ | refine AS_gfn rfl (by first | assumption | with_reducible rfl) ?_ | refine AI_block (AI_loop ?_) | refine AI_block ?_ | refine AI_ret ⟨_, rfl, ?_⟩)
    · obtain ⟨y, hy, _, _⟩ := drop_at h0 hc'
      obtain ⟨y', hy', _, _⟩ := drop_at (l := l') h0 (by omega)
      refine dr45_0 0 ?_
      repeat (first | ((first | refine AX_v (OpV_move rfl) ?_ | refine AX_v (OpV_assign rfl) ?_ | refine AX_v (OpV_arith _ rfl rfl rfl (by omega) (by omega)) ?_ | refine AX_v (OpV_bin rfl rfl rfl) ?_ | refine AX_v (OpV_not rfl) ?_ | refine AX_v (OpV_extract rfl rfl) ?_ | refine AX_v (OpV_nilCheck rfl) ?_); try dsimp only [st, List.set_cons_zero, List.set_cons_succ]) | (refine AX_nil ?_; try simp only [AThen, ABlk, reduceIte, reduceCtorEq]))
      refine AX_idx Try.underlying29 sz3 rfl rfl hR (fun _ => rfl) h0 hy fun b o hrow => ?_
      try (dsimp only [st, setL, AV.cells, List.set_cons_zero, List.set_cons_succ, List.drop_zero, List.drop_succ_cons, List.take_zero, List.take_succ_cons, Nat.zero_add, Nat.add_zero, Nat.reduceAdd, List.cons_append, List.nil_append, List.eraseIdx_cons_zero, List.eraseIdx_cons_succ])
      repeat (first | ((first | refine AX_v (OpV_move rfl) ?_ | refine AX_v (OpV_assign rfl) ?_ | refine AX_v (OpV_arith _ rfl rfl rfl (by omega) (by omega)) ?_ | refine AX_v (OpV_bin rfl rfl rfl) ?_ | refine AX_v (OpV_not rfl) ?_ | refine AX_v (OpV_extract rfl rfl) ?_ | refine AX_v (OpV_nilCheck rfl) ?_); try dsimp only [st, List.set_cons_zero, List.set_cons_succ]) | (refine AX_nil ?_; try simp only [AThen, ABlk, reduceIte, reduceCtorEq]))
      refine AX_f (OpF_load rfl (loadA_1 ag3 (cell_row hrow)) (by first | (intro e; cases e; done) | (intro _; rfl) | simp [det, detS])) ?_
      try (dsimp only [st, setL, AV.cells, List.set_cons_zero, List.set_cons_succ, List.drop_zero, List.drop_succ_cons, List.take_zero, List.take_succ_cons, Nat.zero_add, Nat.add_zero, Nat.reduceAdd, List.cons_append, List.nil_append, List.eraseIdx_cons_zero, List.eraseIdx_cons_succ])
      repeat (first | ((first | refine AX_v (OpV_move rfl) ?_ | refine AX_v (OpV_assign rfl) ?_ | refine AX_v (OpV_arith _ rfl rfl rfl (by omega) (by omega)) ?_ | refine AX_v (OpV_bin rfl rfl rfl) ?_ | refine AX_v (OpV_not rfl) ?_ | refine AX_v (OpV_extract rfl rfl) ?_ | refine AX_v (OpV_nilCheck rfl) ?_); try dsimp only [st, List.set_cons_zero, List.set_cons_succ]) | (refine AX_nil ?_; try simp only [AThen, ABlk, reduceIte, reduceCtorEq]))
      refine AX_idx Try.underlying29 sz3 rfl rfl hR' (fun _ => rfl) h0 hy' fun b o hrow => ?_
      try (dsimp only [st, setL, AV.cells, List.set_cons_zero, List.set_cons_succ, List.drop_zero, List.drop_succ_cons, List.take_zero, List.take_succ_cons, Nat.zero_add, Nat.add_zero, Nat.reduceAdd, List.cons_append, List.nil_append, List.eraseIdx_cons_zero, List.eraseIdx_cons_succ])
      repeat (first | ((first | refine AX_v (OpV_move rfl) ?_ | refine AX_v (OpV_assign rfl) ?_ | refine AX_v (OpV_arith _ rfl rfl rfl (by omega) (by omega)) ?_ | refine AX_v (OpV_bin rfl rfl rfl) ?_ | refine AX_v (OpV_not rfl) ?_ | refine AX_v (OpV_extract rfl rfl) ?_ | refine AX_v (OpV_nilCheck rfl) ?_); try dsimp only [st, List.set_cons_zero, List.set_cons_succ]) | (refine AX_nil ?_; try simp only [AThen, ABlk, reduceIte, reduceCtorEq]))
      refine AX_f (OpF_load rfl (loadA_1 ag3 (cell_row hrow)) (by first | (intro e; cases e; done) | (intro _; rfl) | simp [det, detS])) ?_
      try (dsimp only [st, setL, AV.cells, List.set_cons_zero, List.set_cons_succ, List.drop_zero, List.drop_succ_cons, List.take_zero, List.take_succ_cons, Nat.zero_add, Nat.add_zero, Nat.reduceAdd, List.cons_append, List.nil_append, List.eraseIdx_cons_zero, List.eraseIdx_cons_succ])
      repeat (first | ((first | refine AX_v (OpV_move rfl) ?_ | refine AX_v (OpV_assign rfl) ?_ | refine AX_v (OpV_arith _ rfl rfl rfl (by omega) (by omega)) ?_ | refine AX_v (OpV_bin rfl rfl rfl) ?_ | refine AX_v (OpV_not rfl) ?_ | refine AX_v (OpV_extract rfl rfl) ?_ | refine AX_v (OpV_nilCheck rfl) ?_); try dsimp only [st, List.set_cons_zero, List.set_cons_succ]) | (refine AX_nil ?_; try simp only [AThen, ABlk, reduceIte, reduceCtorEq]))
      repeat (first | refine AI_seqk fun K hK => ?_ | refine AI_reg ?_ | ((first | refine wmv rfl ?_ | refine wag rfl ?_ | refine war _ rfl rfl rfl (by omega) (by omega) ?_ | refine wbn rfl rfl rfl ?_ | refine wnt rfl ?_ | refine wex rfl rfl ?_ | refine wpt rfl (by first | assumption | with_reducible rfl) rfl ?_ | refine wpf rfl (by first | assumption | with_reducible rfl) rfl ?_ | refine wpb rfl rfl rfl ?_ | refine wmf rfl ?_ | refine wnc rfl ?_ | refine wbq Try.underlying4 rfl rfl _ (.inr ⟨rfl, rfl⟩) ?_ | refine wbq Try.underlying4 rfl rfl _ (.inl ⟨rfl, rfl⟩) ?_); try dsimp only [st, List.set_cons_zero, List.set_cons_succ]) | ((first | refine AS_nil ?_ | refine AI_skip ?_ | refine AI_exit ?_); try simp only [AThen, ABlk, reduceIte, reduceCtorEq]) | ((first | refine hK _ _ ?_ | ((first | clear hK K | clear IH hK K); refine hK _ _ ?_) | ((first | clear hK K | clear IH hK K); (first | clear hK K | clear IH hK K); refine hK _ _ ?_) | ((first | clear hK K | clear IH hK K); (first | clear hK K | clear IH hK K); (first | clear hK K | clear IH hK K); refine hK _ _ ?_)); try (first | clear hK K | clear IH hK K)) | refine AI_cond_t rfl (by first | assumption | with_reducible rfl) ?_ | refine AI_cond_f rfl (by first | assumption | with_reducible rfl) ?_ | refine AS_gy rfl (by first | assumption | with_reducible rfl) ?_ | refine AS_gtn rfl (by first | assumption | with_reducible rfl) ?_ | refine AS_gfn rfl (by first | assumption | with_reducible rfl) ?_ | refine AI_block (AI_loop ?_) | refine AI_block ?_ | refine AI_ret ⟨_, rfl, ?_⟩)
      (first | refine AS_gt rfl ?_ ?_ | refine AS_gf rfl ?_ ?_ | refine AI_cond rfl ?_ ?_) <;> intro hc <;> have hc' := hc <;> try simp only [decide_eq_true_eq, decide_eq_false_iff_not, Bool.not_eq_true', Bool.not_eq_false', Bool.not_eq_true, Bool.not_eq_false, beq_iff_eq, bne_iff_ne, beq_eq_false_iff_ne, bne_eq_false_iff_eq, Int.not_lt, Int.not_le, ge_iff_le, gt_iff_lt, not_and, ne_eq, Decidable.not_not] at hc'
      all_goals
        repeat (first | refine AI_seqk fun K hK => ?_ | refine AI_reg ?_ | ((first | refine wmv rfl ?_ | refine wag rfl ?_ | refine war _ rfl rfl rfl (by omega) (by omega) ?_ | refine wbn rfl rfl rfl ?_ | refine wnt rfl ?_ | refine wex rfl rfl ?_ | refine wpt rfl (by first | assumption | with_reducible rfl) rfl ?_ | refine wpf rfl (by first | assumption | with_reducible rfl) rfl ?_ | refine wpb rfl rfl rfl ?_ | refine wmf rfl ?_ | refine wnc rfl ?_ | refine wbq Try.underlying4 rfl rfl _ (.inr ⟨rfl, rfl⟩) ?_ | refine wbq Try.underlying4 rfl rfl _ (.inl ⟨rfl, rfl⟩) ?_); try dsimp only [st, List.set_cons_zero, List.set_cons_succ]) | ((first | refine AS_nil ?_ | refine AI_skip ?_ | refine AI_exit ?_); try simp only [AThen, ABlk, reduceIte, reduceCtorEq]) | ((first | refine hK _ _ ?_ | ((first | clear hK K | clear IH hK K); refine hK _ _ ?_) | ((first | clear hK K | clear IH hK K); (first | clear hK K | clear IH hK K); refine hK _ _ ?_) | ((first | clear hK K | clear IH hK K); (first | clear hK K | clear IH hK K); (first | clear hK K | clear IH hK K); refine hK _ _ ?_)); try (first | clear hK K | clear IH hK K)) | refine AI_cond_t rfl (by first | assumption | with_reducible rfl) ?_ | refine AI_cond_f rfl (by first | assumption | with_reducible rfl) ?_ | refine AS_gy rfl (by first | assumption | with_reducible rfl) ?_ | refine AS_gtn rfl (by first | assumption | with_reducible rfl) ?_ | refine AS_gfn rfl (by first | assumption | with_reducible rfl) ?_ | refine AI_block (AI_loop ?_) | refine AI_block ?_ | refine AI_ret ⟨_, rfl, ?_⟩)
      · refine ⟨?_, rfl⟩
        simp only [oneA, AV.b.injEq]
        symm
        simp
        intro e
        exact hc' (Option.some.inj (by rw [← hy, ← hy', e]))
      · refine IH (n - 1) _ _ (by omega) ⟨i + 1, exJ rfl, by omega, by omega, rfl, ?_⟩
        rw [toNat_succ h0, List.take_add_one, List.take_add_one, heq, hy, hy', hc']
    · refine ⟨?_, rfl⟩
      have e : i.toNat = l.length := by omega
      rw [e] at heq
      rw [List.take_length, hlen, List.take_length] at heq
      simp [oneA, heq]

theorem l1All_ac (l : List Int) (v : AV) (lo hi : Int) (h : AH) (hR : Rd h v l) (hl : l.length ≤ 4611686018427387904) :
    AC Try.prog 101 [v, .i .i64 lo, .i .i64 hi] h (fun r h' => r = .b (l.all fun x => decide (lo ≤ x ∧ x ≤ hi)) ∧ h = h') := by
  refine e101 _ _ _ fun wf => ?_
  unfold c101
  repeat (first | refine AI_seqk fun K hK => ?_ | refine AI_reg ?_ | ((first | refine wmv rfl ?_ | refine wag rfl ?_ | refine war _ rfl rfl rfl (by omega) (by omega) ?_ | refine wbn rfl rfl rfl ?_ | refine wnt rfl ?_ | refine wex rfl rfl ?_ | refine wpt rfl (by first | assumption | with_reducible rfl) rfl ?_ | refine wpf rfl (by first | assumption | with_reducible rfl) rfl ?_ | refine wpb rfl rfl rfl ?_ | refine wmf rfl ?_ | refine wnc rfl ?_ | refine wbq Try.underlying4 rfl rfl _ (.inr ⟨rfl, rfl⟩) ?_ | refine wbq Try.underlying4 rfl rfl _ (.inl ⟨rfl, rfl⟩) ?_); try dsimp only [st, List.set_cons_zero, List.set_cons_succ]) | ((first | refine AS_nil ?_ | refine AI_skip ?_ | refine AI_exit ?_); try simp only [AThen, ABlk, reduceIte, reduceCtorEq]) | ((first | refine hK _ _ ?_ | ((first | clear hK K | clear IH hK K); refine hK _ _ ?_) | ((first | clear hK K | clear IH hK K); (first | clear hK K | clear IH hK K); refine hK _ _ ?_) | ((first | clear hK K | clear IH hK K); (first | clear hK K | clear IH hK K); (first | clear hK K | clear IH hK K); refine hK _ _ ?_)); try (first | clear hK K | clear IH hK K)) | refine AI_cond_t rfl (by first | assumption | with_reducible rfl) ?_ | refine AI_cond_f rfl (by first | assumption | with_reducible rfl) ?_ | refine AS_gy rfl (by first | assumption | with_reducible rfl) ?_ | refine AS_gtn rfl (by first | assumption | with_reducible rfl) ?_ | refine AS_gfn rfl (by first | assumption | with_reducible rfl) ?_ | refine AI_block (AI_loop ?_) | refine AI_block ?_ | refine AI_ret ⟨_, rfl, ?_⟩)
  refine AS_op (OpR_lenA Try.underlying29 rfl hR.len ?_)
  try (dsimp only [st, setL, AV.cells, List.set_cons_zero, List.set_cons_succ, List.drop_zero, List.drop_succ_cons, List.take_zero, List.take_succ_cons, Nat.zero_add, Nat.add_zero, Nat.reduceAdd, List.cons_append, List.nil_append, List.eraseIdx_cons_zero, List.eraseIdx_cons_succ])
  repeat (first | refine AI_seqk fun K hK => ?_ | refine AI_reg ?_ | ((first | refine wmv rfl ?_ | refine wag rfl ?_ | refine war _ rfl rfl rfl (by omega) (by omega) ?_ | refine wbn rfl rfl rfl ?_ | refine wnt rfl ?_ | refine wex rfl rfl ?_ | refine wpt rfl (by first | assumption | with_reducible rfl) rfl ?_ | refine wpf rfl (by first | assumption | with_reducible rfl) rfl ?_ | refine wpb rfl rfl rfl ?_ | refine wmf rfl ?_ | refine wnc rfl ?_ | refine wbq Try.underlying4 rfl rfl _ (.inr ⟨rfl, rfl⟩) ?_ | refine wbq Try.underlying4 rfl rfl _ (.inl ⟨rfl, rfl⟩) ?_); try dsimp only [st, List.set_cons_zero, List.set_cons_succ]) | ((first | refine AS_nil ?_ | refine AI_skip ?_ | refine AI_exit ?_); try simp only [AThen, ABlk, reduceIte, reduceCtorEq]) | ((first | refine hK _ _ ?_ | ((first | clear hK K | clear IH hK K); refine hK _ _ ?_) | ((first | clear hK K | clear IH hK K); (first | clear hK K | clear IH hK K); refine hK _ _ ?_) | ((first | clear hK K | clear IH hK K); (first | clear hK K | clear IH hK K); (first | clear hK K | clear IH hK K); refine hK _ _ ?_)); try (first | clear hK K | clear IH hK K)) | refine AI_cond_t rfl (by first | assumption | with_reducible rfl) ?_ | refine AI_cond_f rfl (by first | assumption | with_reducible rfl) ?_ | refine AS_gy rfl (by first | assumption | with_reducible rfl) ?_ | refine AS_gtn rfl (by first | assumption | with_reducible rfl) ?_ | refine AS_gfn rfl (by first | assumption | with_reducible rfl) ?_ | refine AI_block (AI_loop ?_) | refine AI_block ?_ | refine AI_ret ⟨_, rfl, ?_⟩)
  refine AIL_ind (fun (n : Nat) a h' => ∃ (i : Int) (x8 : AV), (∃ r : Nat → AV, a = [v, .i .i64 lo, .i .i64 hi, un, un, un, .b false, un, x8, v, .i .i64 l.length, .i .i64 i, r 12, r 13, r 14, r 15, r 16, r 17, r 18, r 19, r 20]) ∧ 0 ≤ i ∧ i + n = l.length ∧ h = h' ∧
      l.all (fun x => decide (lo ≤ x ∧ x ≤ hi)) = (l.drop i.toNat).all fun x => decide (lo ≤ x ∧ x ≤ hi))
    ?_ l.length _ _ ⟨0, _, exJ rfl, by omega, by omega, rfl, rfl⟩
  rintro n a h' ⟨i, x8, ⟨r, rfl⟩, h0, hn, rfl, heq⟩ IH
  repeat (first | refine AI_seqk fun K hK => ?_ | refine AI_reg ?_ | ((first | refine wmv rfl ?_ | refine wag rfl ?_ | refine war _ rfl rfl rfl (by omega) (by omega) ?_ | refine wbn rfl rfl rfl ?_ | refine wnt rfl ?_ | refine wex rfl rfl ?_ | refine wpt rfl (by first | assumption | with_reducible rfl) rfl ?_ | refine wpf rfl (by first | assumption | with_reducible rfl) rfl ?_ | refine wpb rfl rfl rfl ?_ | refine wmf rfl ?_ | refine wnc rfl ?_ | refine wbq Try.underlying4 rfl rfl _ (.inr ⟨rfl, rfl⟩) ?_ | refine wbq Try.underlying4 rfl rfl _ (.inl ⟨rfl, rfl⟩) ?_); try dsimp only [st, List.set_cons_zero, List.set_cons_succ]) | ((first | refine AS_nil ?_ | refine AI_skip ?_ | refine AI_exit ?_); try simp only [AThen, ABlk, reduceIte, reduceCtorEq]) | ((first | refine hK _ _ ?_ | ((first | clear hK K | clear IH hK K); refine hK _ _ ?_) | ((first | clear hK K | clear IH hK K); (first | clear hK K | clear IH hK K); refine hK _ _ ?_) | ((first | clear hK K | clear IH hK K); (first | clear hK K | clear IH hK K); (first | clear hK K | clear IH hK K); refine hK _ _ ?_)); try (first | clear hK K | clear IH hK K)) | refine AI_cond_t rfl (by first | assumption | with_reducible rfl) ?_ | refine AI_cond_f rfl (by first | assumption | with_reducible rfl) ?_ | refine AS_gy rfl (by first | assumption | with_reducible rfl) ?_ | refine AS_gtn rfl (by first | assumption | with_reducible rfl) ?_ | refine AS_gfn rfl (by first | assumption | with_reducible rfl) ?_ | refine AI_block (AI_loop ?_) | refine AI_block ?_ | refine AI_ret ⟨_, rfl, ?_⟩)
  (first | refine AS_gt rfl ?_ ?_ | refine AS_gf rfl ?_ ?_ | refine AI_cond rfl ?_ ?_) <;> intro hc <;> have hc' := hc <;> try simp only [decide_eq_true_eq, decide_eq_false_iff_not, Bool.not_eq_true', Bool.not_eq_false', Bool.not_eq_true, Bool.not_eq_false, beq_iff_eq, bne_iff_ne, beq_eq_false_iff_ne, bne_eq_false_iff_eq, Int.not_lt, Int.not_le, ge_iff_le, gt_iff_lt, not_and, ne_eq, Decidable.not_not] at hc'
  all_goals
    repeat (first | refine AI_seqk fun K hK => ?_ | refine AI_reg ?_ | ((first | refine wmv rfl ?_ | refine wag rfl ?_ | refine war _ rfl rfl rfl (by omega) (by omega) ?_ | refine wbn rfl rfl rfl ?_ | refine wnt rfl ?_ | refine wex rfl rfl ?_ | refine wpt rfl (by first | assumption | with_reducible rfl) rfl ?_ | refine wpf rfl (by first | assumption | with_reducible rfl) rfl ?_ | refine wpb rfl rfl rfl ?_ | refine wmf rfl ?_ | refine wnc rfl ?_ | refine wbq Try.underlying4 rfl rfl _ (.inr ⟨rfl, rfl⟩) ?_ | refine wbq Try.underlying4 rfl rfl _ (.inl ⟨rfl, rfl⟩) ?_); try dsimp only [st, List.set_cons_zero, List.set_cons_succ]) | ((first | refine AS_nil ?_ | refine AI_skip ?_ | refine AI_exit ?_); try simp only [AThen, ABlk, reduceIte, reduceCtorEq]) | ((first | refine hK _ _ ?_ | ((first | clear hK K | clear IH hK K); refine hK _ _ ?_) | ((first | clear hK K | clear IH hK K); (first | clear hK K | clear IH hK K); refine hK _ _ ?_) | ((first | clear hK K | clear IH hK K); (first | clear hK K | clear IH hK K); (first | clear hK K | clear IH hK K); refine hK _ _ ?_)); try (first | clear hK K | clear IH hK K)) | refine AI_cond_t rfl (by first | assumption | with_reducible rfl) ?_ | refine AI_cond_f rfl (by first | assumption | with_reducible rfl) ?_ | refine AS_gy rfl (by first | assumption | with_reducible rfl) ?_ | refine AS_gtn rfl (by first | assumption | with_reducible rfl) ?_ | refine AS_gfn rfl (by first | assumption | with_reducible rfl) ?_ | refine AI_block (AI_loop ?_) | refine AI_block ?_ | refine AI_ret ⟨_, rfl, ?_⟩)
  · obtain ⟨y, hy, _, hdrop⟩ := drop_at h0 hc'
    rw [hdrop, List.all_cons] at heq
    refine AS_op (OpR_idx Try.underlying29 sz3 rfl rfl hR (fun _ => rfl) h0 hy fun b o hrow => ?_)
    try (dsimp only [st, setL, AV.cells, List.set_cons_zero, List.set_cons_succ, List.drop_zero, List.drop_succ_cons, List.take_zero, List.take_succ_cons, Nat.zero_add, Nat.add_zero, Nat.reduceAdd, List.cons_append, List.nil_append, List.eraseIdx_cons_zero, List.eraseIdx_cons_succ])
    repeat (first | refine AI_seqk fun K hK => ?_ | refine AI_reg ?_ | ((first | refine wmv rfl ?_ | refine wag rfl ?_ | refine war _ rfl rfl rfl (by omega) (by omega) ?_ | refine wbn rfl rfl rfl ?_ | refine wnt rfl ?_ | refine wex rfl rfl ?_ | refine wpt rfl (by first | assumption | with_reducible rfl) rfl ?_ | refine wpf rfl (by first | assumption | with_reducible rfl) rfl ?_ | refine wpb rfl rfl rfl ?_ | refine wmf rfl ?_ | refine wnc rfl ?_ | refine wbq Try.underlying4 rfl rfl _ (.inr ⟨rfl, rfl⟩) ?_ | refine wbq Try.underlying4 rfl rfl _ (.inl ⟨rfl, rfl⟩) ?_); try dsimp only [st, List.set_cons_zero, List.set_cons_succ]) | ((first | refine AS_nil ?_ | refine AI_skip ?_ | refine AI_exit ?_); try simp only [AThen, ABlk, reduceIte, reduceCtorEq]) | ((first | refine hK _ _ ?_ | ((first | clear hK K | clear IH hK K); refine hK _ _ ?_) | ((first | clear hK K | clear IH hK K); (first | clear hK K | clear IH hK K); refine hK _ _ ?_) | ((first | clear hK K | clear IH hK K); (first | clear hK K | clear IH hK K); (first | clear hK K | clear IH hK K); refine hK _ _ ?_)); try (first | clear hK K | clear IH hK K)) | refine AI_cond_t rfl (by first | assumption | with_reducible rfl) ?_ | refine AI_cond_f rfl (by first | assumption | with_reducible rfl) ?_ | refine AS_gy rfl (by first | assumption | with_reducible rfl) ?_ | refine AS_gtn rfl (by first | assumption | with_reducible rfl) ?_ | refine AS_gfn rfl (by first | assumption | with_reducible rfl) ?_ | refine AI_block (AI_loop ?_) | refine AI_block ?_ | refine AI_ret ⟨_, rfl, ?_⟩)
    refine AS_op (OpR_load rfl (loadA_1 ag3 (cell_row hrow)) ?_)
    try (dsimp only [st, setL, AV.cells, List.set_cons_zero, List.set_cons_succ, List.drop_zero, List.drop_succ_cons, List.take_zero, List.take_succ_cons, Nat.zero_add, Nat.add_zero, Nat.reduceAdd, List.cons_append, List.nil_append, List.eraseIdx_cons_zero, List.eraseIdx_cons_succ])
    repeat (first | refine AI_seqk fun K hK => ?_ | refine AI_reg ?_ | ((first | refine wmv rfl ?_ | refine wag rfl ?_ | refine war _ rfl rfl rfl (by omega) (by omega) ?_ | refine wbn rfl rfl rfl ?_ | refine wnt rfl ?_ | refine wex rfl rfl ?_ | refine wpt rfl (by first | assumption | with_reducible rfl) rfl ?_ | refine wpf rfl (by first | assumption | with_reducible rfl) rfl ?_ | refine wpb rfl rfl rfl ?_ | refine wmf rfl ?_ | refine wnc rfl ?_ | refine wbq Try.underlying4 rfl rfl _ (.inr ⟨rfl, rfl⟩) ?_ | refine wbq Try.underlying4 rfl rfl _ (.inl ⟨rfl, rfl⟩) ?_); try dsimp only [st, List.set_cons_zero, List.set_cons_succ]) | ((first | refine AS_nil ?_ | refine AI_skip ?_ | refine AI_exit ?_); try simp only [AThen, ABlk, reduceIte, reduceCtorEq]) | ((first | refine hK _ _ ?_ | ((first | clear hK K | clear IH hK K); refine hK _ _ ?_) | ((first | clear hK K | clear IH hK K); (first | clear hK K | clear IH hK K); refine hK _ _ ?_) | ((first | clear hK K | clear IH hK K); (first | clear hK K | clear IH hK K); (first | clear hK K | clear IH hK K); refine hK _ _ ?_)); try (first | clear hK K | clear IH hK K)) | refine AI_cond_t rfl (by first | assumption | with_reducible rfl) ?_ | refine AI_cond_f rfl (by first | assumption | with_reducible rfl) ?_ | refine AS_gy rfl (by first | assumption | with_reducible rfl) ?_ | refine AS_gtn rfl (by first | assumption | with_reducible rfl) ?_ | refine AS_gfn rfl (by first | assumption | with_reducible rfl) ?_ | refine AI_block (AI_loop ?_) | refine AI_block ?_ | refine AI_ret ⟨_, rfl, ?_⟩)
    refine AS_op (OpR_call rfl rfl (l1In_ac _ _ _ _) ?_)
    rintro _ _ wf1 ⟨rfl, rfl⟩
    try (dsimp only [st, setL, AV.cells, List.set_cons_zero, List.set_cons_succ, List.drop_zero, List.drop_succ_cons, List.take_zero, List.take_succ_cons, Nat.zero_add, Nat.add_zero, Nat.reduceAdd, List.cons_append, List.nil_append, List.eraseIdx_cons_zero, List.eraseIdx_cons_succ])
    repeat (first | refine AI_seqk fun K hK => ?_ | refine AI_reg ?_ | ((first | refine wmv rfl ?_ | refine wag rfl ?_ | refine war _ rfl rfl rfl (by omega) (by omega) ?_ | refine wbn rfl rfl rfl ?_ | refine wnt rfl ?_ | refine wex rfl rfl ?_ | refine wpt rfl (by first | assumption | with_reducible rfl) rfl ?_ | refine wpf rfl (by first | assumption | with_reducible rfl) rfl ?_ | refine wpb rfl rfl rfl ?_ | refine wmf rfl ?_ | refine wnc rfl ?_ | refine wbq Try.underlying4 rfl rfl _ (.inr ⟨rfl, rfl⟩) ?_ | refine wbq Try.underlying4 rfl rfl _ (.inl ⟨rfl, rfl⟩) ?_); try dsimp only [st, List.set_cons_zero, List.set_cons_succ]) | ((first | refine AS_nil ?_ | refine AI_skip ?_ | refine AI_exit ?_); try simp only [AThen, ABlk, reduceIte, reduceCtorEq]) | ((first | refine hK _ _ ?_ | ((first | clear hK K | clear IH hK K); refine hK _ _ ?_) | ((first | clear hK K | clear IH hK K); (first | clear hK K | clear IH hK K); refine hK _ _ ?_) | ((first | clear hK K | clear IH hK K); (first | clear hK K | clear IH hK K); (first | clear hK K | clear IH hK K); refine hK _ _ ?_)); try (first | clear hK K | clear IH hK K)) | refine AI_cond_t rfl (by first | assumption | with_reducible rfl) ?_ | refine AI_cond_f rfl (by first | assumption | with_reducible rfl) ?_ | refine AS_gy rfl (by first | assumption | with_reducible rfl) ?_ | refine AS_gtn rfl (by first | assumption | with_reducible rfl) ?_ | refine AS_gfn rfl (by first | assumption | with_reducible rfl) ?_ | refine AI_block (AI_loop ?_) | refine AI_block ?_ | refine AI_ret ⟨_, rfl, ?_⟩)
    (first | refine AS_gt rfl ?_ ?_ | refine AS_gf rfl ?_ ?_ | refine AI_cond rfl ?_ ?_) <;> intro hc <;> have hc' := hc <;> try simp only [decide_eq_true_eq, decide_eq_false_iff_not, Bool.not_eq_true', Bool.not_eq_false', Bool.not_eq_true, Bool.not_eq_false, beq_iff_eq, bne_iff_ne, beq_eq_false_iff_ne, bne_eq_false_iff_eq, Int.not_lt, Int.not_le, ge_iff_le, gt_iff_lt, not_and, ne_eq, Decidable.not_not] at hc'
    all_goals
      repeat (first | refine AI_seqk fun K hK => ?_ | refine AI_reg ?_ | ((first | refine wmv rfl ?_ | refine wag rfl ?_ | refine war _ rfl rfl rfl (by omega) (by omega) ?_ | refine wbn rfl rfl rfl ?_ | refine wnt rfl ?_ | refine wex rfl rfl ?_ | refine wpt rfl (by first | assumption | with_reducible rfl) rfl ?_ | refine wpf rfl (by first | assumption | with_reducible rfl) rfl ?_ | refine wpb rfl rfl rfl ?_ | refine wmf rfl ?_ | refine wnc rfl ?_ | refine wbq Try.underlying4 rfl rfl _ (.inr ⟨rfl, rfl⟩) ?_ | refine wbq Try.underlying4 rfl rfl _ (.inl ⟨rfl, rfl⟩) ?_); try dsimp only [st, List.set_cons_zero, List.set_cons_succ]) | ((first | refine AS_nil ?_ | refine AI_skip ?_ | refine AI_exit ?_); try simp only [AThen, ABlk, reduceIte, reduceCtorEq]) | ((first | refine hK _ _ ?_ | ((first | clear hK K | clear IH hK K); refine hK _ _ ?_) | ((first | clear hK K | clear IH hK K); (first | clear hK K | clear IH hK K); refine hK _ _ ?_) | ((first | clear hK K | clear IH hK K); (first | clear hK K | clear IH hK K); (first | clear hK K | clear IH hK K); refine hK _ _ ?_)); try (first | clear hK K | clear IH hK K)) | refine AI_cond_t rfl (by first | assumption | with_reducible rfl) ?_ | refine AI_cond_f rfl (by first | assumption | with_reducible rfl) ?_ | refine AS_gy rfl (by first | assumption | with_reducible rfl) ?_ | refine AS_gtn rfl (by first | assumption | with_reducible rfl) ?_ | refine AS_gfn rfl (by first | assumption | with_reducible rfl) ?_ | refine AI_block (AI_loop ?_) | refine AI_block ?_ | refine AI_ret ⟨_, rfl, ?_⟩)
    · refine ⟨?_, rfl⟩
      rw [heq, show decide (lo ≤ y ∧ y ≤ hi) = false by simpa only [Bool.not_eq_true'] using hc]
      rfl
    · refine IH (n - 1) _ _ (by omega) ⟨i + 1, _, exJ rfl, by omega, by omega, rfl, ?_⟩
      rw [heq, toNat_succ h0, show decide (lo ≤ y ∧ y ≤ hi) = true by simpa only [Bool.not_eq_false'] using hc]
      rfl
  · refine ⟨?_, rfl⟩
    rw [heq, List.drop_eq_nil_of_le (by omega)]
    rfl

/-! ### The cursor that draws arguments: what it hands back, within bounds -/
def enU (n : Int) : List AV := [.i .u8 n]

theorem enU1 (x : Int) : (enU x).length = 1 := rfl

/-- Numbers from k on. -/
def markL : Int → Nat → List Int
  | _, 0 => []
  | k, n + 1 => k :: markL (k + 1) n

theorem markL_len : ∀ (n : Nat) (k : Int), (markL k n).length = n
  | 0, _ => rfl
  | n + 1, k => by simp [markL, markL_len n]

theorem markL_get : ∀ (n : Nat) (k : Int) (i : Nat), i < n → (markL k n)[i]? = some (k + i)
  | 0, _, i, h => by omega
  | n + 1, k, 0, _ => by simp [markL]
  | n + 1, k, i + 1, h => by
    simp only [markL, List.getElem?_cons_succ]
    rw [markL_get n (k + 1) i (by omega)]
    congr 1
    omega

theorem markL_set {l : List Int} {k : Int} {i : Nat} (h : i < l.length) : (markL k i ++ l.drop i).set i (k + i) = markL k (i + 1) ++ l.drop (i + 1) := by
  apply List.ext_getElem?
  intro j
  have hi := markL_len i k
  have hi1 := markL_len (i + 1) k
  by_cases e : i = j
  · subst e
    rw [List.getElem?_set_self (by simp [hi]; omega), List.getElem?_append_left (by omega), markL_get (i + 1) k i (by omega)]
  · rw [List.getElem?_set_ne e]
    by_cases hlt : j < i
    · rw [List.getElem?_append_left (by omega), List.getElem?_append_left (by omega), markL_get i k j hlt, markL_get (i + 1) k j (by omega)]
    · rw [List.getElem?_append_right (by omega), List.getElem?_append_right (by omega), hi, hi1, List.getElem?_drop, List.getElem?_drop]
      congr 1
      omega

theorem szIntS_ac (l : List Int) (v : AV) (k : Int) (h : AH) (hR : Rd h v l) (hk : 0 ≤ k) (hk1 : k ≤ 4611686018427387904) (hl : l.length ≤ 9223372036854775807) :
    AC Try.prog 91 [v, .i .i64 k] h (fun r h' => r = .i .i64 (if k - l.length < 0 then -1 else k - l.length) ∧ h = h') := by
  refine e91 _ _ fun wf => ?_
  unfold c91
  repeat (first | refine AI_seqk fun K hK => ?_ | refine AI_reg ?_ | ((first | refine wmv rfl ?_ | refine wag rfl ?_ | refine war _ rfl rfl rfl (by omega) (by omega) ?_ | refine wbn rfl rfl rfl ?_ | refine wnt rfl ?_ | refine wex rfl rfl ?_ | refine wpt rfl (by first | assumption | with_reducible rfl) rfl ?_ | refine wpf rfl (by first | assumption | with_reducible rfl) rfl ?_ | refine wpb rfl rfl rfl ?_ | refine wmf rfl ?_ | refine wnc rfl ?_ | refine wbq Try.underlying4 rfl rfl _ (.inr ⟨rfl, rfl⟩) ?_ | refine wbq Try.underlying4 rfl rfl _ (.inl ⟨rfl, rfl⟩) ?_); try dsimp only [st, List.set_cons_zero, List.set_cons_succ]) | ((first | refine AS_nil ?_ | refine AI_skip ?_ | refine AI_exit ?_); try simp only [AThen, ABlk, reduceIte, reduceCtorEq]) | ((first | refine hK _ _ ?_ | ((first | clear hK K | clear IH hK K); refine hK _ _ ?_) | ((first | clear hK K | clear IH hK K); (first | clear hK K | clear IH hK K); refine hK _ _ ?_) | ((first | clear hK K | clear IH hK K); (first | clear hK K | clear IH hK K); (first | clear hK K | clear IH hK K); refine hK _ _ ?_)); try (first | clear hK K | clear IH hK K)) | refine AI_cond_t rfl (by first | assumption | with_reducible rfl) ?_ | refine AI_cond_f rfl (by first | assumption | with_reducible rfl) ?_ | refine AS_gy rfl (by first | assumption | with_reducible rfl) ?_ | refine AS_gtn rfl (by first | assumption | with_reducible rfl) ?_ | refine AS_gfn rfl (by first | assumption | with_reducible rfl) ?_ | refine AI_block (AI_loop ?_) | refine AI_block ?_ | refine AI_ret ⟨_, rfl, ?_⟩)
  refine AS_op (OpR_lenA Try.underlying29 rfl hR.len ?_)
  try (dsimp only [st, setL, AV.cells, List.set_cons_zero, List.set_cons_succ, List.drop_zero, List.drop_succ_cons, List.take_zero, List.take_succ_cons, Nat.zero_add, Nat.add_zero, Nat.reduceAdd, List.cons_append, List.nil_append, List.eraseIdx_cons_zero, List.eraseIdx_cons_succ])
  repeat (first | refine AI_seqk fun K hK => ?_ | refine AI_reg ?_ | ((first | refine wmv rfl ?_ | refine wag rfl ?_ | refine war _ rfl rfl rfl (by omega) (by omega) ?_ | refine wbn rfl rfl rfl ?_ | refine wnt rfl ?_ | refine wex rfl rfl ?_ | refine wpt rfl (by first | assumption | with_reducible rfl) rfl ?_ | refine wpf rfl (by first | assumption | with_reducible rfl) rfl ?_ | refine wpb rfl rfl rfl ?_ | refine wmf rfl ?_ | refine wnc rfl ?_ | refine wbq Try.underlying4 rfl rfl _ (.inr ⟨rfl, rfl⟩) ?_ | refine wbq Try.underlying4 rfl rfl _ (.inl ⟨rfl, rfl⟩) ?_); try dsimp only [st, List.set_cons_zero, List.set_cons_succ]) | ((first | refine AS_nil ?_ | refine AI_skip ?_ | refine AI_exit ?_); try simp only [AThen, ABlk, reduceIte, reduceCtorEq]) | ((first | refine hK _ _ ?_ | ((first | clear hK K | clear IH hK K); refine hK _ _ ?_) | ((first | clear hK K | clear IH hK K); (first | clear hK K | clear IH hK K); refine hK _ _ ?_) | ((first | clear hK K | clear IH hK K); (first | clear hK K | clear IH hK K); (first | clear hK K | clear IH hK K); refine hK _ _ ?_)); try (first | clear hK K | clear IH hK K)) | refine AI_cond_t rfl (by first | assumption | with_reducible rfl) ?_ | refine AI_cond_f rfl (by first | assumption | with_reducible rfl) ?_ | refine AS_gy rfl (by first | assumption | with_reducible rfl) ?_ | refine AS_gtn rfl (by first | assumption | with_reducible rfl) ?_ | refine AS_gfn rfl (by first | assumption | with_reducible rfl) ?_ | refine AI_block (AI_loop ?_) | refine AI_block ?_ | refine AI_ret ⟨_, rfl, ?_⟩)
  (first | refine AS_gt rfl ?_ ?_ | refine AS_gf rfl ?_ ?_ | refine AI_cond rfl ?_ ?_) <;> intro hc <;> have hc' := hc <;> try simp only [decide_eq_true_eq, decide_eq_false_iff_not, Bool.not_eq_true', Bool.not_eq_false', Bool.not_eq_true, Bool.not_eq_false, beq_iff_eq, bne_iff_ne, beq_eq_false_iff_ne, bne_eq_false_iff_eq, Int.not_lt, Int.not_le, ge_iff_le, gt_iff_lt, not_and, ne_eq, Decidable.not_not] at hc'
  all_goals
    repeat (first | refine AI_seqk fun K hK => ?_ | refine AI_reg ?_ | ((first | refine wmv rfl ?_ | refine wag rfl ?_ | refine war _ rfl rfl rfl (by omega) (by omega) ?_ | refine wbn rfl rfl rfl ?_ | refine wnt rfl ?_ | refine wex rfl rfl ?_ | refine wpt rfl (by first | assumption | with_reducible rfl) rfl ?_ | refine wpf rfl (by first | assumption | with_reducible rfl) rfl ?_ | refine wpb rfl rfl rfl ?_ | refine wmf rfl ?_ | refine wnc rfl ?_ | refine wbq Try.underlying4 rfl rfl _ (.inr ⟨rfl, rfl⟩) ?_ | refine wbq Try.underlying4 rfl rfl _ (.inl ⟨rfl, rfl⟩) ?_); try dsimp only [st, List.set_cons_zero, List.set_cons_succ]) | ((first | refine AS_nil ?_ | refine AI_skip ?_ | refine AI_exit ?_); try simp only [AThen, ABlk, reduceIte, reduceCtorEq]) | ((first | refine hK _ _ ?_ | ((first | clear hK K | clear IH hK K); refine hK _ _ ?_) | ((first | clear hK K | clear IH hK K); (first | clear hK K | clear IH hK K); refine hK _ _ ?_) | ((first | clear hK K | clear IH hK K); (first | clear hK K | clear IH hK K); (first | clear hK K | clear IH hK K); refine hK _ _ ?_)); try (first | clear hK K | clear IH hK K)) | refine AI_cond_t rfl (by first | assumption | with_reducible rfl) ?_ | refine AI_cond_f rfl (by first | assumption | with_reducible rfl) ?_ | refine AS_gy rfl (by first | assumption | with_reducible rfl) ?_ | refine AS_gtn rfl (by first | assumption | with_reducible rfl) ?_ | refine AS_gfn rfl (by first | assumption | with_reducible rfl) ?_ | refine AI_block (AI_loop ?_) | refine AI_block ?_ | refine AI_ret ⟨_, rfl, ?_⟩)
  · exact ⟨by rw [if_pos hc']; rfl, rfl⟩
  · exact ⟨by rw [if_neg (by omega)]; rfl, rfl⟩

theorem take_snoc {α : Type} {l : List α} {i : Nat} {y : α} (hy : l[i]? = some y) : l.take (i + 1) = l.take i ++ [y] := by rw [List.take_add_one, hy]; rfl

theorem szStepS_ac (l : List (Int × Int)) (v : AV) (k : Int) (h : AH) (hR : RdG 2 enStep h v l) (hk : 0 ≤ k) (hk1 : k ≤ 1048576) (hl : l.length ≤ 9223372036854775807) :
    AC Try.prog 90 [v, .i .i64 k] h (fun r h' => r = .i .i64 (if k - l.length < 0 then -1 else k - l.length) ∧ h.le h') := by
  refine e90 _ _ fun wf => ?_
  unfold c90
  refine LI_start wf ?_
  refine W ?_
  (first | refine LS_gt rfl ?_ ?_ | refine LS_gf rfl ?_ ?_ | refine LI_cond rfl ?_ ?_) <;> intro hc <;> have hc' := hc <;> try simp only [decide_eq_true_eq, decide_eq_false_iff_not, Bool.not_eq_true', Bool.not_eq_false', Bool.not_eq_true, Bool.not_eq_false, beq_iff_eq, bne_iff_ne, beq_eq_false_iff_ne, bne_eq_false_iff_eq, Int.not_lt, Int.not_le, ge_iff_le, gt_iff_lt, not_and, ne_eq, Decidable.not_not] at hc'
  all_goals (try (dsimp only [st, setL, AV.cells, List.set_cons_zero, List.set_cons_succ, List.drop_zero, List.drop_succ_cons, List.take_zero, List.take_succ_cons, Nat.zero_add, Nat.add_zero, Nat.reduceAdd, List.cons_append, List.nil_append, List.eraseIdx_cons_zero, List.eraseIdx_cons_succ]))
  all_goals (refine W ?_)
  · refine RET fun h' HL => ?_
    try dsimp only [oneA]
    exact ⟨by rw [if_pos hc'], HL.le⟩
  · refine RET fun h' HL => ?_
    try dsimp only [oneA]
    exact ⟨by rw [if_neg (by omega)], HL.le⟩

theorem toStep_ac (s : Int × Int) (h : AH) : AC Try.prog 137 [.agg (enStep s)] h (fun r h' => r = .agg (enStep s) ∧ h.le h') := by
  refine e137 _ fun wf => ?_
  unfold c137
  refine LI_start wf ?_
  refine W ?_
  refine LS_bxn rfl rfl fun b1 => ?_
  try (dsimp only [st, setL, AV.cells, List.set_cons_zero, List.set_cons_succ, List.drop_zero, List.drop_succ_cons, List.take_zero, List.take_succ_cons, Nat.zero_add, Nat.add_zero, Nat.reduceAdd, List.cons_append, List.nil_append, List.eraseIdx_cons_zero, List.eraseIdx_cons_succ])
  refine W ?_
  refine LS_al rfl fun b2 => ?_
  try (dsimp only [st, setL, AV.cells, List.set_cons_zero, List.set_cons_succ, List.drop_zero, List.drop_succ_cons, List.take_zero, List.take_succ_cons, Nat.zero_add, Nat.add_zero, Nat.reduceAdd, List.cons_append, List.nil_append, List.eraseIdx_cons_zero, List.eraseIdx_cons_succ])
  refine W ?_
  refine LS_al rfl fun b3 => ?_
  try (dsimp only [st, setL, AV.cells, List.set_cons_zero, List.set_cons_succ, List.drop_zero, List.drop_succ_cons, List.take_zero, List.take_succ_cons, Nat.zero_add, Nat.add_zero, Nat.reduceAdd, List.cons_append, List.nil_append, List.eraseIdx_cons_zero, List.eraseIdx_cons_succ])
  refine W ?_
  refine RET fun h' HL => ?_
  try dsimp only [oneA]
  exact ⟨rfl, HL.le⟩

theorem put_step {l : List (Int × Int)} {i : Nat} {y : Int × Int} (hi : i < l.length) (hy : l[i]? = some y) : (l.take i ++ List.replicate (l.length - i) ((0, 0) : Int × Int)).set i y = l.take (i + 1) ++ List.replicate (l.length - (i + 1)) (0, 0) := by
  have h1 : (l.take i).length = i := by simp; omega
  rw [List.set_append_right _ _ (by omega), h1, Nat.sub_self, show l.length - i = (l.length - (i + 1)) + 1 by omega, List.replicate_succ, List.set_cons_zero, take_snoc hy]
  simp

theorem toStepS_ac (l : List (Int × Int)) (v : AV) (h : AH) (hR : RdG 2 enStep h v l) (hl : l.length ≤ 1048576) :
    AC Try.prog 92 [v] h (fun r h' => AL.Own h 2 enStep h' r l) := by
  refine e92 _ fun wf => ?_
  unfold c92
  refine LI_start wf ?_
  refine W ?_
  refine LS_mk2 ((0, 0) : Int × Int) rfl (by decide) rfl rfl rfl rfl (by omega) (by omega) (by omega) enStep2 rfl fun b1 => ?_
  try (dsimp only [st, setL, AV.cells, List.set_cons_zero, List.set_cons_succ, List.drop_zero, List.drop_succ_cons, List.take_zero, List.take_succ_cons, Nat.zero_add, Nat.add_zero, Nat.reduceAdd, List.cons_append, List.nil_append, List.eraseIdx_cons_zero, List.eraseIdx_cons_succ])
  refine W ?_
  refine LIL_ind (fun n a L => ∃ (i : Int), (∃ r : Nat → AV, a = [v, r 1, r 2, .sl b1 0 l.length true, .i .i64 i, r 5, r 6, r 7, r 8, r 9, r 10, r 11, r 12, r 13, r 14, r 15, r 16, r 17, r 18, r 19, r 20, r 21, r 22]) ∧ L = [.sl (.sl b1 0 l.length true) 2 ((l.take i.toNat ++ List.replicate (l.length - i.toNat) ((0, 0) : Int × Int)).flatMap enStep)] ∧ 0 ≤ i ∧ i + n = l.length)
    l.length ⟨0, exJ rfl, rfl, by omega, by omega⟩ ?_
  rintro n a L ⟨i, ⟨r, rfl⟩, rfl, h0, hn⟩ IH
  refine W ?_
  (first | refine LS_gt rfl ?_ ?_ | refine LS_gf rfl ?_ ?_ | refine LI_cond rfl ?_ ?_) <;> intro hc <;> have hc' := hc <;> try simp only [decide_eq_true_eq, decide_eq_false_iff_not, Bool.not_eq_true', Bool.not_eq_false', Bool.not_eq_true, Bool.not_eq_false, beq_iff_eq, bne_iff_ne, beq_eq_false_iff_ne, bne_eq_false_iff_eq, Int.not_lt, Int.not_le, ge_iff_le, gt_iff_lt, not_and, ne_eq, Decidable.not_not] at hc'
  all_goals (try (dsimp only [st, setL, AV.cells, List.set_cons_zero, List.set_cons_succ, List.drop_zero, List.drop_succ_cons, List.take_zero, List.take_succ_cons, Nat.zero_add, Nat.add_zero, Nat.reduceAdd, List.cons_append, List.nil_append, List.eraseIdx_cons_zero, List.eraseIdx_cons_succ]))
  all_goals (refine W ?_)
  · obtain ⟨y, hy, _, _⟩ := drop_at h0 hc'
    refine LS_ix (fun h' HL => hR.le HL.le) enStep2 hy h0 rfl rfl fun b o hrow => ?_
    try (dsimp only [st, setL, AV.cells, List.set_cons_zero, List.set_cons_succ, List.drop_zero, List.drop_succ_cons, List.take_zero, List.take_succ_cons, Nat.zero_add, Nat.add_zero, Nat.reduceAdd, List.cons_append, List.nil_append, List.eraseIdx_cons_zero, List.eraseIdx_cons_succ])
    refine W ?_
    refine LS_c0 (fun h' HL wf => toStep_ac y h') rfl rfl ?_
    try (dsimp only [st, setL, AV.cells, List.set_cons_zero, List.set_cons_succ, List.drop_zero, List.drop_succ_cons, List.take_zero, List.take_succ_cons, Nat.zero_add, Nat.add_zero, Nat.reduceAdd, List.cons_append, List.nil_append, List.eraseIdx_cons_zero, List.eraseIdx_cons_succ])
    refine W ?_
    refine LS_is h0 hc' rfl rfl ?_
    try (dsimp only [st, setL, AV.cells, List.set_cons_zero, List.set_cons_succ, List.drop_zero, List.drop_succ_cons, List.take_zero, List.take_succ_cons, Nat.zero_add, Nat.add_zero, Nat.reduceAdd, List.cons_append, List.nil_append, List.eraseIdx_cons_zero, List.eraseIdx_cons_succ])
    refine W ?_
    refine LS_ss y 0 i.toNat rfl (by simp; omega) (by omega) rfl enStep2 (by decide) rfl rfl rfl ?_
    try (dsimp only [st, setL, AV.cells, List.set_cons_zero, List.set_cons_succ, List.drop_zero, List.drop_succ_cons, List.take_zero, List.take_succ_cons, Nat.zero_add, Nat.add_zero, Nat.reduceAdd, List.cons_append, List.nil_append, List.eraseIdx_cons_zero, List.eraseIdx_cons_succ])
    refine W ?_
    refine IH (n - 1) _ _ (by omega) ⟨i + 1, exJ rfl, by rw [toNat_succ h0, put_step (by omega) hy], by omega, by omega⟩
  · have e : i.toNat = l.length := by omega
    refine RET fun h' HL => ?_
    try dsimp only [oneA]
    have hO := HL.ownI 0 rfl enStep2 (by decide)
    rw [e] at hO
    simpa using hO

theorem toPlan_ac (p : PlanM) (v : AV) (h : AH) (hR : PlR h v p) (hl : p.steps.length ≤ 1048576) (hl2 : p.outs.length ≤ 1048576) :
    AC Try.prog 36 [v] h (fun r h' => ∃ M, (∃ vs vo, r = .agg [.i .i64 p.n, vs, vo] ∧ M = [.sl vs 2 (p.steps.flatMap enStep), .sl vo 1 (p.outs.flatMap enI)]) ∧ Loq h h' M) := by
  obtain ⟨vs, vo, rfl, hs, ho⟩ := hR
  refine e36 _ fun wf => ?_
  unfold c36
  refine LI_start wf ?_
  refine W ?_
  refine LS_bxn rfl (sc_cons rfl (sc_cons (rd_sc hs) (sc_cons (rd_sc ho) rfl))) fun b1 => ?_
  try (dsimp only [st, setL, AV.cells, List.set_cons_zero, List.set_cons_succ, List.drop_zero, List.drop_succ_cons, List.take_zero, List.take_succ_cons, Nat.zero_add, Nat.add_zero, Nat.reduceAdd, List.cons_append, List.nil_append, List.eraseIdx_cons_zero, List.eraseIdx_cons_succ])
  refine W ?_
  refine LS_al rfl fun b2 => ?_
  try (dsimp only [st, setL, AV.cells, List.set_cons_zero, List.set_cons_succ, List.drop_zero, List.drop_succ_cons, List.take_zero, List.take_succ_cons, Nat.zero_add, Nat.add_zero, Nat.reduceAdd, List.cons_append, List.nil_append, List.eraseIdx_cons_zero, List.eraseIdx_cons_succ])
  refine W ?_
  refine LS_al rfl fun b3 => ?_
  try (dsimp only [st, setL, AV.cells, List.set_cons_zero, List.set_cons_succ, List.drop_zero, List.drop_succ_cons, List.take_zero, List.take_succ_cons, Nat.zero_add, Nat.add_zero, Nat.reduceAdd, List.cons_append, List.nil_append, List.eraseIdx_cons_zero, List.eraseIdx_cons_succ])
  refine W ?_
  refine LS_co (fun h' HL wf => toStepS_ac p.steps vs h' (hs.le HL.le) hl) enStep2 rfl rfl fun w1 hw1 sw1 => ?_
  try (dsimp only [st, setL, AV.cells, List.set_cons_zero, List.set_cons_succ, List.drop_zero, List.drop_succ_cons, List.take_zero, List.take_succ_cons, Nat.zero_add, Nat.add_zero, Nat.reduceAdd, List.cons_append, List.nil_append, List.eraseIdx_cons_zero, List.eraseIdx_cons_succ])
  refine W ?_
  refine LS_co (fun h' HL wf => toIntS_own p.outs vo h' (ho.le HL.le) hl2) enI1 rfl rfl fun w2 hw2 sw2 => ?_
  try (dsimp only [st, setL, AV.cells, List.set_cons_zero, List.set_cons_succ, List.drop_zero, List.drop_succ_cons, List.take_zero, List.take_succ_cons, Nat.zero_add, Nat.add_zero, Nat.reduceAdd, List.cons_append, List.nil_append, List.eraseIdx_cons_zero, List.eraseIdx_cons_succ])
  refine W ?_
  refine RET fun h' HL => ?_
  try dsimp only [oneA]
  exact ⟨_, ⟨w1, w2, rfl, rfl⟩, (HL.sub (List.take_sublist 2 _)).swap⟩

theorem eqStep_ac (s s' : Int × Int) (h : AH) : AC Try.prog 128 [.agg (enStep s), .agg (enStep s')] h (fun r h' => r = .b (decide (s = s')) ∧ h.le h') := by
  obtain ⟨a, b⟩ := s
  obtain ⟨a', b'⟩ := s'
  refine e128 _ _ fun wf => ?_
  unfold c128
  refine LI_start wf ?_
  refine W ?_
  refine LS_bxn rfl rfl fun b1 => ?_
  try (dsimp only [st, setL, AV.cells, List.set_cons_zero, List.set_cons_succ, List.drop_zero, List.drop_succ_cons, List.take_zero, List.take_succ_cons, Nat.zero_add, Nat.add_zero, Nat.reduceAdd, List.cons_append, List.nil_append, List.eraseIdx_cons_zero, List.eraseIdx_cons_succ])
  refine W ?_
  refine LS_bxn rfl rfl fun b2 => ?_
  try (dsimp only [st, setL, AV.cells, List.set_cons_zero, List.set_cons_succ, List.drop_zero, List.drop_succ_cons, List.take_zero, List.take_succ_cons, Nat.zero_add, Nat.add_zero, Nat.reduceAdd, List.cons_append, List.nil_append, List.eraseIdx_cons_zero, List.eraseIdx_cons_succ])
  refine W ?_
  (first | refine LS_gt rfl ?_ ?_ | refine LS_gf rfl ?_ ?_ | refine LI_cond rfl ?_ ?_) <;> intro hc <;> have hc' := hc <;> try simp only [decide_eq_true_eq, decide_eq_false_iff_not, Bool.not_eq_true', Bool.not_eq_false', Bool.not_eq_true, Bool.not_eq_false, beq_iff_eq, bne_iff_ne, beq_eq_false_iff_ne, bne_eq_false_iff_eq, Int.not_lt, Int.not_le, ge_iff_le, gt_iff_lt, not_and, ne_eq, Decidable.not_not] at hc'
  all_goals (try (dsimp only [st, setL, AV.cells, List.set_cons_zero, List.set_cons_succ, List.drop_zero, List.drop_succ_cons, List.take_zero, List.take_succ_cons, Nat.zero_add, Nat.add_zero, Nat.reduceAdd, List.cons_append, List.nil_append, List.eraseIdx_cons_zero, List.eraseIdx_cons_succ]))
  all_goals (refine W ?_)
  · refine RET fun h' HL => ?_
    try dsimp only [oneA]
    exact ⟨by simp [oneA, hc'], HL.le⟩
  · (first | refine LS_gt rfl ?_ ?_ | refine LS_gf rfl ?_ ?_ | refine LI_cond rfl ?_ ?_) <;> intro hc <;> have hc' := hc <;> try simp only [decide_eq_true_eq, decide_eq_false_iff_not, Bool.not_eq_true', Bool.not_eq_false', Bool.not_eq_true, Bool.not_eq_false, beq_iff_eq, bne_iff_ne, beq_eq_false_iff_ne, bne_eq_false_iff_eq, Int.not_lt, Int.not_le, ge_iff_le, gt_iff_lt, not_and, ne_eq, Decidable.not_not] at hc'
    all_goals (try (dsimp only [st, setL, AV.cells, List.set_cons_zero, List.set_cons_succ, List.drop_zero, List.drop_succ_cons, List.take_zero, List.take_succ_cons, Nat.zero_add, Nat.add_zero, Nat.reduceAdd, List.cons_append, List.nil_append, List.eraseIdx_cons_zero, List.eraseIdx_cons_succ]))
    all_goals (refine W ?_)
    · refine RET fun h' HL => ?_
      try dsimp only [oneA]
      exact ⟨by simp [oneA, *], HL.le⟩
    · refine RET fun h' HL => ?_
      try dsimp only [oneA]
      exact ⟨by simp [oneA, *], HL.le⟩

theorem eqStepS_ac (l l' : List (Int × Int)) (v v' : AV) (h : AH) (hR : RdG 2 enStep h v l) (hR' : RdG 2 enStep h v' l') (hl : l.length ≤ 4611686018427387904) :
    AC Try.prog 70 [v, v'] h (fun r h' => r = .b (decide (l = l')) ∧ h.le h') := by
  refine e70 _ _ fun wf => ?_
  unfold c70
  refine LI_start wf ?_
  refine W ?_
  (first | refine LS_gt rfl ?_ ?_ | refine LS_gf rfl ?_ ?_ | refine LI_cond rfl ?_ ?_) <;> intro hc <;> have hc' := hc <;> try simp only [decide_eq_true_eq, decide_eq_false_iff_not, Bool.not_eq_true', Bool.not_eq_false', Bool.not_eq_true, Bool.not_eq_false, beq_iff_eq, bne_iff_ne, beq_eq_false_iff_ne, bne_eq_false_iff_eq, Int.not_lt, Int.not_le, ge_iff_le, gt_iff_lt, not_and, ne_eq, Decidable.not_not] at hc'
  all_goals (try (dsimp only [st, setL, AV.cells, List.set_cons_zero, List.set_cons_succ, List.drop_zero, List.drop_succ_cons, List.take_zero, List.take_succ_cons, Nat.zero_add, Nat.add_zero, Nat.reduceAdd, List.cons_append, List.nil_append, List.eraseIdx_cons_zero, List.eraseIdx_cons_succ]))
  all_goals (refine W ?_)
  · refine RET fun h' HL => ?_
    try dsimp only [oneA]
    refine ⟨?_, HL.le⟩
    simp only [oneA, AV.b.injEq]
    symm
    simp only [decide_eq_false_iff_not]
    rintro rfl
    exact hc' rfl
  · have hlen : l.length = l'.length := by omega
    refine LIL_ind (fun n a L => ∃ (i : Int), (∃ r : Nat → AV, a = [v, v', r 2, r 3, r 4, .i .i64 i, r 6, r 7, r 8, r 9, r 10, r 11, r 12, r 13, r 14, r 15, r 16, r 17, r 18, r 19, r 20, r 21, r 22, r 23, r 24, r 25, r 26]) ∧ L = [] ∧ 0 ≤ i ∧ i + n = l.length ∧ l.take i.toNat = l'.take i.toNat)
      l.length ⟨0, exJ rfl, rfl, by omega, by omega, by simp⟩ ?_
    rintro n a L ⟨i, ⟨r, rfl⟩, rfl, h0, hn, heq⟩ IH
    refine W ?_
    (first | refine LS_gt rfl ?_ ?_ | refine LS_gf rfl ?_ ?_ | refine LI_cond rfl ?_ ?_) <;> intro hc <;> have hc' := hc <;> try simp only [decide_eq_true_eq, decide_eq_false_iff_not, Bool.not_eq_true', Bool.not_eq_false', Bool.not_eq_true, Bool.not_eq_false, beq_iff_eq, bne_iff_ne, beq_eq_false_iff_ne, bne_eq_false_iff_eq, Int.not_lt, Int.not_le, ge_iff_le, gt_iff_lt, not_and, ne_eq, Decidable.not_not] at hc'
    all_goals (try (dsimp only [st, setL, AV.cells, List.set_cons_zero, List.set_cons_succ, List.drop_zero, List.drop_succ_cons, List.take_zero, List.take_succ_cons, Nat.zero_add, Nat.add_zero, Nat.reduceAdd, List.cons_append, List.nil_append, List.eraseIdx_cons_zero, List.eraseIdx_cons_succ]))
    all_goals (refine W ?_)
    · obtain ⟨y, hy, _, _⟩ := drop_at h0 hc'
      obtain ⟨y', hy', _, _⟩ := drop_at (l := l') h0 (by omega)
      refine dz70_0 ?_
      refine WX ?_
      refine W ?_
      refine LX_ix (fun h' HL => hR.le HL.le) enStep2 hy h0 rfl rfl noG fun b o hrow => ?_
      try (dsimp only [st, setL, AV.cells, List.set_cons_zero, List.set_cons_succ, List.drop_zero, List.drop_succ_cons, List.take_zero, List.take_succ_cons, Nat.zero_add, Nat.add_zero, Nat.reduceAdd, List.cons_append, List.nil_append, List.eraseIdx_cons_zero, List.eraseIdx_cons_succ])
      refine WX ?_
      refine W ?_
      refine LX_ix (fun h' HL => hR'.le HL.le) enStep2 hy' h0 rfl rfl noG fun b' o' hrow' => ?_
      try (dsimp only [st, setL, AV.cells, List.set_cons_zero, List.set_cons_succ, List.drop_zero, List.drop_succ_cons, List.take_zero, List.take_succ_cons, Nat.zero_add, Nat.add_zero, Nat.reduceAdd, List.cons_append, List.nil_append, List.eraseIdx_cons_zero, List.eraseIdx_cons_succ])
      refine WX ?_
      refine W ?_
      refine LX_c0 (fun h' HL wf => eqStep_ac y y' h'.frz) rfl rfl noG ?_
      try (dsimp only [st, setL, AV.cells, List.set_cons_zero, List.set_cons_succ, List.drop_zero, List.drop_succ_cons, List.take_zero, List.take_succ_cons, Nat.zero_add, Nat.add_zero, Nat.reduceAdd, List.cons_append, List.nil_append, List.eraseIdx_cons_zero, List.eraseIdx_cons_succ])
      refine WX ?_
      refine W ?_
      (first | refine LS_gt rfl ?_ ?_ | refine LS_gf rfl ?_ ?_ | refine LI_cond rfl ?_ ?_) <;> intro hc <;> have hc' := hc <;> try simp only [decide_eq_true_eq, decide_eq_false_iff_not, Bool.not_eq_true', Bool.not_eq_false', Bool.not_eq_true, Bool.not_eq_false, beq_iff_eq, bne_iff_ne, beq_eq_false_iff_ne, bne_eq_false_iff_eq, Int.not_lt, Int.not_le, ge_iff_le, gt_iff_lt, not_and, ne_eq, Decidable.not_not] at hc'
      all_goals (try (dsimp only [st, setL, AV.cells, List.set_cons_zero, List.set_cons_succ, List.drop_zero, List.drop_succ_cons, List.take_zero, List.take_succ_cons, Nat.zero_add, Nat.add_zero, Nat.reduceAdd, List.cons_append, List.nil_append, List.eraseIdx_cons_zero, List.eraseIdx_cons_succ]))
      all_goals (refine W ?_)
      · refine RET fun h' HL => ?_
        try dsimp only [oneA]
        refine ⟨?_, HL.le⟩
        have hne := of_decide_eq_false (nt hc)
        simp only [oneA, AV.b.injEq]
        symm
        simp only [decide_eq_false_iff_not]
        intro e
        exact hne (Option.some.inj (by rw [← hy, ← hy', e]))
      · have he := of_decide_eq_true (nf hc)
        refine IH (n - 1) _ _ (by omega) ⟨i + 1, exJ rfl, rfl, by omega, by omega, ?_⟩
        rw [toNat_succ h0, take_snoc hy, take_snoc hy', heq, he]
    · refine RET fun h' HL => ?_
      try dsimp only [oneA]
      refine ⟨?_, HL.le⟩
      have e : i.toNat = l.length := by omega
      rw [e] at heq
      rw [List.take_length, hlen, List.take_length] at heq
      simp [oneA, heq]

theorem eqPlan_ac (p q : PlanM) (v v' : AV) (h : AH) (hR : PlR h v p) (hR' : PlR h v' q) (hl : p.steps.length ≤ 1048576) (hl2 : p.outs.length ≤ 1048576) :
    AC Try.prog 24 [v, v'] h (fun r h' => r = .b (decide (p = q)) ∧ h.le h') := by
  obtain ⟨vs, vo, rfl, hs, ho⟩ := hR
  obtain ⟨vs', vo', rfl, hs', ho'⟩ := hR'
  obtain ⟨n, sp, ou⟩ := p
  obtain ⟨n', sp', ou'⟩ := q
  simp only at hs ho hs' ho' hl hl2
  refine e24 _ _ fun wf => ?_
  unfold c24
  refine LI_start wf ?_
  refine W ?_
  refine LS_bxn rfl (sc_cons rfl (sc_cons (rd_sc hs) (sc_cons (rd_sc ho) rfl))) fun b1 => ?_
  try (dsimp only [st, setL, AV.cells, List.set_cons_zero, List.set_cons_succ, List.drop_zero, List.drop_succ_cons, List.take_zero, List.take_succ_cons, Nat.zero_add, Nat.add_zero, Nat.reduceAdd, List.cons_append, List.nil_append, List.eraseIdx_cons_zero, List.eraseIdx_cons_succ])
  refine W ?_
  refine LS_bxn rfl (sc_cons rfl (sc_cons (rd_sc hs') (sc_cons (rd_sc ho') rfl))) fun b2 => ?_
  try (dsimp only [st, setL, AV.cells, List.set_cons_zero, List.set_cons_succ, List.drop_zero, List.drop_succ_cons, List.take_zero, List.take_succ_cons, Nat.zero_add, Nat.add_zero, Nat.reduceAdd, List.cons_append, List.nil_append, List.eraseIdx_cons_zero, List.eraseIdx_cons_succ])
  refine W ?_
  (first | refine LS_gt rfl ?_ ?_ | refine LS_gf rfl ?_ ?_ | refine LI_cond rfl ?_ ?_) <;> intro hc <;> have hc' := hc <;> try simp only [decide_eq_true_eq, decide_eq_false_iff_not, Bool.not_eq_true', Bool.not_eq_false', Bool.not_eq_true, Bool.not_eq_false, beq_iff_eq, bne_iff_ne, beq_eq_false_iff_ne, bne_eq_false_iff_eq, Int.not_lt, Int.not_le, ge_iff_le, gt_iff_lt, not_and, ne_eq, Decidable.not_not] at hc'
  all_goals (try (dsimp only [st, setL, AV.cells, List.set_cons_zero, List.set_cons_succ, List.drop_zero, List.drop_succ_cons, List.take_zero, List.take_succ_cons, Nat.zero_add, Nat.add_zero, Nat.reduceAdd, List.cons_append, List.nil_append, List.eraseIdx_cons_zero, List.eraseIdx_cons_succ]))
  all_goals (refine W ?_)
  · refine RET fun h' HL => ?_
    try dsimp only [oneA]
    exact ⟨by simp [oneA, hc'], HL.le⟩
  · refine LS_c0 (fun h' HL wf => eqStepS_ac sp sp' vs vs' h' (hs.le HL.le) (hs'.le HL.le) (by omega)) rfl rfl ?_
    try (dsimp only [st, setL, AV.cells, List.set_cons_zero, List.set_cons_succ, List.drop_zero, List.drop_succ_cons, List.take_zero, List.take_succ_cons, Nat.zero_add, Nat.add_zero, Nat.reduceAdd, List.cons_append, List.nil_append, List.eraseIdx_cons_zero, List.eraseIdx_cons_succ])
    refine W ?_
    (first | refine LS_gt rfl ?_ ?_ | refine LS_gf rfl ?_ ?_ | refine LI_cond rfl ?_ ?_) <;> intro hc <;> have hc' := hc <;> try simp only [decide_eq_true_eq, decide_eq_false_iff_not, Bool.not_eq_true', Bool.not_eq_false', Bool.not_eq_true, Bool.not_eq_false, beq_iff_eq, bne_iff_ne, beq_eq_false_iff_ne, bne_eq_false_iff_eq, Int.not_lt, Int.not_le, ge_iff_le, gt_iff_lt, not_and, ne_eq, Decidable.not_not] at hc'
    all_goals (try (dsimp only [st, setL, AV.cells, List.set_cons_zero, List.set_cons_succ, List.drop_zero, List.drop_succ_cons, List.take_zero, List.take_succ_cons, Nat.zero_add, Nat.add_zero, Nat.reduceAdd, List.cons_append, List.nil_append, List.eraseIdx_cons_zero, List.eraseIdx_cons_succ]))
    all_goals (refine W ?_)
    · have hne := of_decide_eq_false (nt hc)
      refine RET fun h' HL => ?_
      try dsimp only [oneA]
      exact ⟨by simp [oneA, hne], HL.le⟩
    · have he := of_decide_eq_true (nf hc)
      refine LS_c0' (fun h' HL wf => eqIntS_ac ou ou' vo vo' h' (ho.le HL.le) (ho'.le HL.le) (by omega)) rfl rfl ?_
      try (dsimp only [st, setL, AV.cells, List.set_cons_zero, List.set_cons_succ, List.drop_zero, List.drop_succ_cons, List.take_zero, List.take_succ_cons, Nat.zero_add, Nat.add_zero, Nat.reduceAdd, List.cons_append, List.nil_append, List.eraseIdx_cons_zero, List.eraseIdx_cons_succ])
      refine W ?_
      (first | refine LS_gt rfl ?_ ?_ | refine LS_gf rfl ?_ ?_ | refine LI_cond rfl ?_ ?_) <;> intro hc <;> have hc' := hc <;> try simp only [decide_eq_true_eq, decide_eq_false_iff_not, Bool.not_eq_true', Bool.not_eq_false', Bool.not_eq_true, Bool.not_eq_false, beq_iff_eq, bne_iff_ne, beq_eq_false_iff_ne, bne_eq_false_iff_eq, Int.not_lt, Int.not_le, ge_iff_le, gt_iff_lt, not_and, ne_eq, Decidable.not_not] at hc'
      all_goals (try (dsimp only [st, setL, AV.cells, List.set_cons_zero, List.set_cons_succ, List.drop_zero, List.drop_succ_cons, List.take_zero, List.take_succ_cons, Nat.zero_add, Nat.add_zero, Nat.reduceAdd, List.cons_append, List.nil_append, List.eraseIdx_cons_zero, List.eraseIdx_cons_succ]))
      all_goals (refine W ?_)
      · have hne := of_decide_eq_false (nt hc)
        refine RET fun h' HL => ?_
        try dsimp only [oneA]
        exact ⟨by simp [oneA, hne], HL.le⟩
      · have he2 := of_decide_eq_true (nf hc)
        refine RET fun h' HL => ?_
        try dsimp only [oneA]
        exact ⟨by simp [oneA, *], HL.le⟩

theorem eqPlan_same (p : PlanM) (v v' : AV) (h : AH) (hR : PlR h v p) (hR' : PlR h v' p) (hl : p.steps.length ≤ 1048576) (hl2 : p.outs.length ≤ 1048576) :
    AC Try.prog 24 [v, v'] h (fun r h' => r = .b true ∧ h.le h') := (eqPlan_ac p p v v' h hR hR' hl hl2).mono fun r h' H => by simpa using H

theorem any_not (l : List Int) (p : Int → Bool) : (l.any fun x => !p x) = !l.all p := by simp [List.not_all_eq_any_not]

/-! ### Exponents -/
def sumR (x y : List Int) : List Int := List.zipWith (fun a b => if a + b < 1000001 then a + b else 1000001) x y

theorem sumR_len {x y : List Int} (h : x.length = y.length) : (sumR x y).length = x.length := by simp [sumR, h]

theorem sumR_take {x y : List Int} {i : Nat} {a b : Int} (ha : x[i]? = some a) (hb : y[i]? = some b) : sumR (x.take (i + 1)) (y.take (i + 1)) = sumR (x.take i) (y.take i) ++ [if a + b < 1000001 then a + b else 1000001] := by
  have hx := (List.getElem?_eq_some_iff.1 ha).1
  have hy := (List.getElem?_eq_some_iff.1 hb).1
  rw [take_snoc ha, take_snoc hb]
  unfold sumR
  rw [List.zipWith_append (by simp; omega)]
  rfl

theorem l1Least_ac (a b : Int) (h : AH) : AC Try.prog 80 [.i .i64 a, .i .i64 b] h (fun r h' => r = .i .i64 (if a < b then a else b) ∧ h.le h') := by
  refine e80 _ _ fun wf => ?_
  unfold c80
  refine LI_start wf ?_
  refine W ?_
  (first | refine LS_gt rfl ?_ ?_ | refine LS_gf rfl ?_ ?_ | refine LI_cond rfl ?_ ?_) <;> intro hc <;> have hc' := hc <;> try simp only [decide_eq_true_eq, decide_eq_false_iff_not, Bool.not_eq_true', Bool.not_eq_false', Bool.not_eq_true, Bool.not_eq_false, beq_iff_eq, bne_iff_ne, beq_eq_false_iff_ne, bne_eq_false_iff_eq, Int.not_lt, Int.not_le, ge_iff_le, gt_iff_lt, not_and, ne_eq, Decidable.not_not] at hc'
  all_goals (try (dsimp only [st, setL, AV.cells, List.set_cons_zero, List.set_cons_succ, List.drop_zero, List.drop_succ_cons, List.take_zero, List.take_succ_cons, Nat.zero_add, Nat.add_zero, Nat.reduceAdd, List.cons_append, List.nil_append, List.eraseIdx_cons_zero, List.eraseIdx_cons_succ]))
  all_goals (refine W ?_)
  · refine RET fun h' HL => ?_
    try dsimp only [oneA]
    exact ⟨by rw [if_pos hc'], HL.le⟩
  · refine RET fun h' HL => ?_
    try dsimp only [oneA]
    exact ⟨by rw [if_neg (by omega)], HL.le⟩

def row01 (l : List Int) : Prop := ∀ x ∈ l, 0 ≤ x ∧ x ≤ 1000001

theorem plSum_ac (x y : List Int) (v v' : AV) (h : AH) (hx : Rd h v x) (hy : Rd h v' y) (hl : x.length = y.length) (hn : x.length ≤ 6) (hxb : row01 x) (hyb : row01 y) :
    AC Try.prog 158 [v, v'] h (fun r h' => AL.Own h 1 enI h' r (sumR x y)) := by
  refine e158 _ _ fun wf => ?_
  unfold c158
  refine LI_start wf ?_
  refine W ?_
  refine LIL_nl (k := 1) ?_
  refine LIL_ind (fun n a L => ∃ (out : AV) (i : Int), (∃ r : Nat → AV, a = [v, v', r 2, r 3, r 4, out, r 6, r 7, .i .i64 x.length, .i .i64 i, r 10, r 11, r 12, r 13, r 14, r 15, r 16, r 17, r 18, r 19, r 20, r 21, r 22, r 23, r 24, r 25, r 26]) ∧ L = [.sl out 1 ((sumR (x.take i.toNat) (y.take i.toNat)).flatMap enI)] ∧ 0 ≤ i ∧ i + n = x.length)
    x.length ⟨.ns, 0, exJ rfl, rfl, by omega, by omega⟩ ?_
  rintro n a L ⟨out, i, ⟨r, rfl⟩, rfl, h0, hn⟩ IH
  refine W ?_
  (first | refine LS_gt rfl ?_ ?_ | refine LS_gf rfl ?_ ?_ | refine LI_cond rfl ?_ ?_) <;> intro hc <;> have hc' := hc <;> try simp only [decide_eq_true_eq, decide_eq_false_iff_not, Bool.not_eq_true', Bool.not_eq_false', Bool.not_eq_true, Bool.not_eq_false, beq_iff_eq, bne_iff_ne, beq_eq_false_iff_ne, bne_eq_false_iff_eq, Int.not_lt, Int.not_le, ge_iff_le, gt_iff_lt, not_and, ne_eq, Decidable.not_not] at hc'
  all_goals (try (dsimp only [st, setL, AV.cells, List.set_cons_zero, List.set_cons_succ, List.drop_zero, List.drop_succ_cons, List.take_zero, List.take_succ_cons, Nat.zero_add, Nat.add_zero, Nat.reduceAdd, List.cons_append, List.nil_append, List.eraseIdx_cons_zero, List.eraseIdx_cons_succ]))
  all_goals (refine W ?_)
  · obtain ⟨a, ha, ham, _⟩ := drop_at h0 hc'
    obtain ⟨b, hb, hbm, _⟩ := drop_at (l := y) h0 (by omega)
    have h1 := hxb a ham
    have h2 := hyb b hbm
    have hlen : (sumR (x.take i.toNat) (y.take i.toNat)).length = i.toNat := by rw [sumR_len (by simp; omega)]; simp; omega
    refine dz158_0 ?_
    refine WX ?_
    refine W ?_
    refine LX_ix (fun h' HL => hx.le HL.le) enI1 ha h0 rfl rfl noG fun q o hrow => ?_
    try (dsimp only [st, setL, AV.cells, List.set_cons_zero, List.set_cons_succ, List.drop_zero, List.drop_succ_cons, List.take_zero, List.take_succ_cons, Nat.zero_add, Nat.add_zero, Nat.reduceAdd, List.cons_append, List.nil_append, List.eraseIdx_cons_zero, List.eraseIdx_cons_succ])
    refine WX ?_
    refine W ?_
    refine LX_ix (fun h' HL => hy.le HL.le) enI1 hb h0 rfl rfl noG fun q' o' hrow' => ?_
    try (dsimp only [st, setL, AV.cells, List.set_cons_zero, List.set_cons_succ, List.drop_zero, List.drop_succ_cons, List.take_zero, List.take_succ_cons, Nat.zero_add, Nat.add_zero, Nat.reduceAdd, List.cons_append, List.nil_append, List.eraseIdx_cons_zero, List.eraseIdx_cons_succ])
    refine WX ?_
    refine W ?_
    refine LX_c0 (fun h' HL wf => l1Least_ac (a + b) 1000001 h'.frz) rfl rfl noG ?_
    try (dsimp only [st, setL, AV.cells, List.set_cons_zero, List.set_cons_succ, List.drop_zero, List.drop_succ_cons, List.take_zero, List.take_succ_cons, Nat.zero_add, Nat.add_zero, Nat.reduceAdd, List.cons_append, List.nil_append, List.eraseIdx_cons_zero, List.eraseIdx_cons_succ])
    refine WX ?_
    refine W ?_
    refine LX_lt [if a + b < 1000001 then a + b else 1000001] rfl rfl (by decide) rfl rfl rfl rfl enI1 rfl rfl noG fun lit hlit slit => ?_
    try (dsimp only [st, setL, AV.cells, List.set_cons_zero, List.set_cons_succ, List.drop_zero, List.drop_succ_cons, List.take_zero, List.take_succ_cons, Nat.zero_add, Nat.add_zero, Nat.reduceAdd, List.cons_append, List.nil_append, List.eraseIdx_cons_zero, List.eraseIdx_cons_succ])
    refine WX ?_
    refine W ?_
    refine LX_f noG (LO_ap 1 rfl (fun h' HL => HL.rdI 0 rfl enI1 (by decide)) enI1 (by decide) (by simp) (by simp; omega) (by simp; omega) rfl rfl rfl fun w hw sw => ?_)
    try (dsimp only [st, setL, AV.cells, List.set_cons_zero, List.set_cons_succ, List.drop_zero, List.drop_succ_cons, List.take_zero, List.take_succ_cons, Nat.zero_add, Nat.add_zero, Nat.reduceAdd, List.cons_append, List.nil_append, List.eraseIdx_cons_zero, List.eraseIdx_cons_succ])
    refine WX ?_
    refine W ?_
    refine LIL_drop 1 ?_
    refine IH (n - 1) _ _ (by omega) ⟨w, i + 1, exJ rfl, by rw [toNat_succ h0, sumR_take ha hb]; rfl, by omega, by omega⟩
  · have e : i.toNat = x.length := by omega
    refine RET fun h' HL => ?_
    try dsimp only [oneA]
    have hO := HL.ownI 0 rfl enI1 (by decide)
    rw [e, List.take_length, hl, List.take_length] at hO
    exact hO

def unitRow (n i : Nat) : List Int := (List.replicate n 0).set i 1

def unitsE (n : Nat) : List (List Int) := (List.range n).map (unitRow n)

def stepE (ll : List (List Int)) (s : Int × Int) : List (List Int) := ll ++ [sumR (ll.getD s.1.toNat []) (ll.getD s.2.toNat [])]

def expsE (p : PlanM) : List (List Int) := p.steps.foldl stepE (unitsE p.n.toNat)

def formedS (n : Int) : Nat → List (Int × Int) → Bool
  | _, [] => true
  | i, s :: l => decide (0 ≤ s.1 ∧ s.1 ≤ s.2 ∧ s.2 < n + i) && formedS n (i + 1) l

theorem formedS_get {n : Int} : ∀ {l : List (Int × Int)} {k i : Nat} {s : Int × Int}, formedS n k l = true → l[i]? = some s → 0 ≤ s.1 ∧ s.1 ≤ s.2 ∧ s.2 < n + k + i
  | [], _, _, _, _, h => by simp at h
  | x :: l, k, 0, s, h, e => by
    simp at e; subst e
    simp only [formedS, Bool.and_eq_true, decide_eq_true_eq] at h
    omega
  | x :: l, k, i + 1, s, h, e => by
    simp only [formedS, Bool.and_eq_true] at h
    have := formedS_get h.2 (by simpa using e)
    omega

def rowsOk (n : Nat) (ll : List (List Int)) : Prop := ∀ r ∈ ll, r.length = n ∧ row01 r

theorem unitRow_ok (n i : Nat) : (unitRow n i).length = n ∧ row01 (unitRow n i) := by
  refine ⟨by simp [unitRow], fun x hx => ?_⟩
  rcases List.mem_or_eq_of_mem_set hx with hx | rfl
  · have := (List.mem_replicate.1 hx).2; omega
  · omega

theorem unitsE_ok (n k : Nat) : rowsOk n ((unitsE n).take k) := by
  intro r hr
  obtain ⟨i, _, rfl⟩ := List.mem_map.1 (List.mem_of_mem_take hr)
  exact unitRow_ok n i

theorem sumR_ok {n : Nat} {x y : List Int} (hx : x.length = n ∧ row01 x) (hy : y.length = n ∧ row01 y) : (sumR x y).length = n ∧ row01 (sumR x y) := by
  refine ⟨by rw [sumR_len (by omega)]; omega, fun z hz => ?_⟩
  unfold sumR at hz
  obtain ⟨i, hi⟩ := List.mem_iff_getElem?.1 hz
  rw [List.getElem?_zipWith] at hi
  cases hxi : x[i]? with
  | none => rw [hxi] at hi; simp at hi
  | some a =>
    cases hyi : y[i]? with
    | none => rw [hxi, hyi] at hi; simp at hi
    | some b =>
      rw [hxi, hyi] at hi
      have h1 := hx.2 a (List.mem_of_getElem? hxi)
      have h2 := hy.2 b (List.mem_of_getElem? hyi)
      simp only [Option.some.injEq] at hi
      subst hi
      split <;> omega

theorem getD_get {ll : List (List Int)} {i : Nat} (h : i < ll.length) : ll[i]? = some (ll.getD i []) := by simp [List.getD, List.getElem?_eq_getElem h]

/-- The values of the first steps. -/
def expsT (p : PlanM) (i : Nat) : List (List Int) := (p.steps.take i).foldl stepE (unitsE p.n.toNat)

theorem expsT_succ {p : PlanM} {i : Nat} {s : Int × Int} (hs : p.steps[i]? = some s) : expsT p (i + 1) = stepE (expsT p i) s := by
  unfold expsT
  rw [take_snoc hs, List.foldl_append]
  rfl

theorem expsT_ok {p : PlanM} (hf : formedS p.n 0 p.steps = true) (hn : 1 ≤ p.n) : ∀ i, i ≤ p.steps.length → (expsT p i).length = p.n.toNat + i ∧ rowsOk p.n.toNat (expsT p i)
  | 0, _ => by
    have e : expsT p 0 = (unitsE p.n.toNat).take p.n.toNat := by
      rw [List.take_of_length_le (by simp [unitsE])]
      rfl
    exact ⟨by simp [expsT, unitsE], by rw [e]; exact unitsE_ok _ _⟩
  | i + 1, hi => by
    obtain ⟨h1, h2⟩ := expsT_ok hf hn i (by omega)
    have hs : p.steps[i]? = some p.steps[i] := List.getElem?_eq_getElem (by omega)
    have hb := formedS_get hf hs
    generalize p.steps[i] = s at hs hb
    rw [expsT_succ hs]
    refine ⟨by simp [stepE, h1]; omega, fun r hr => ?_⟩
    rcases List.mem_append.1 hr with hr | hr
    · exact h2 r hr
    · rw [List.mem_singleton.1 hr]
      exact sumR_ok (h2 _ (List.mem_of_getElem? (getD_get (by omega)))) (h2 _ (List.mem_of_getElem? (getD_get (by omega))))

def ssI (v : AV) (us : List AV) (ll : List (List Int)) : List It := .sl v 1 (us.flatMap enV) :: (rowsI us ll ++ [])

theorem unit_next {n i : Nat} (h : i < n) : (unitsE n).take (i + 1) = (unitsE n).take i ++ [unitRow n i] := take_snoc (by simp [unitsE, h])

theorem set_unit (n i : Nat) : (List.replicate n (0 : Int)).set i 1 = unitRow n i := rfl

theorem at_ {α : Type} {l : List α} {i : Nat} (h : i < l.length) : ∃ x, l[i]? = some x := ⟨_, List.getElem?_eq_getElem h⟩

theorem expsT_end (p : PlanM) : expsT p p.steps.length = expsE p := by simp [expsT, expsE]

theorem plExponents_ac (p : PlanM) (v : AV) (h : AH) (hR : PlR h v p) (hn0 : 1 ≤ p.n) (hn1 : p.n ≤ 6) (hl : p.steps.length ≤ 40) (hf : formedS p.n 0 p.steps = true) :
    AC Try.prog 136 [v] h (fun r h' => ∃ M, (∃ us, us.length = (expsE p).length ∧ lenA r = some us.length ∧ r.sc = true ∧ M = ssI r us (expsE p)) ∧ Loq h h' M) := by
  obtain ⟨vs, vo, rfl, hs, ho⟩ := hR
  refine e136 _ fun wf => ?_
  unfold c136
  refine LI_start wf ?_
  refine W ?_
  refine LS_bxn rfl (sc_cons rfl (sc_cons (rd_sc hs) (sc_cons (rd_sc ho) rfl))) fun b1 => ?_
  try (dsimp only [st, setL, AV.cells, List.set_cons_zero, List.set_cons_succ, List.drop_zero, List.drop_succ_cons, List.take_zero, List.take_succ_cons, Nat.zero_add, Nat.add_zero, Nat.reduceAdd, List.cons_append, List.nil_append, List.eraseIdx_cons_zero, List.eraseIdx_cons_succ])
  refine W ?_
  refine LIL_nl (k := 1) ?_
  refine LIL_ind (fun n a L => ∃ (out : AV) (i : Int) (us : List AV), (∃ r : Nat → AV, a = [r 0, .p b1 0, r 2, out, .i .i64 i, r 5, r 6, r 7, r 8, r 9, r 10, r 11, r 12, r 13, r 14, r 15, r 16, r 17, r 18, r 19, r 20, r 21, r 22, r 23, r 24, r 25, r 26, r 27, r 28, r 29, r 30, r 31, r 32, r 33, r 34, r 35, r 36, r 37, r 38, r 39, r 40, r 41, r 42, r 43, r 44, r 45, r 46]) ∧ L = .sl out 1 (us.flatMap enV) :: .pt b1 [.i .i64 p.n, vs, vo] :: (rowsI us ((unitsE p.n.toNat).take i.toNat) ++ []) ∧ us.length = i.toNat ∧ 0 ≤ i ∧ i + n = p.n)
    p.n.toNat ⟨.ns, 0, [], exJ rfl, rfl, rfl, by omega, by omega⟩ ?_
  rintro n a L ⟨out, i, us, ⟨r, rfl⟩, rfl, hus, h0, hn⟩ IH
  have hul : us.length = ((unitsE p.n.toNat).take i.toNat).length := by rw [hus]; simp [unitsE]; omega
  refine W ?_
  (first | refine LS_gt rfl ?_ ?_ | refine LS_gf rfl ?_ ?_ | refine LI_cond rfl ?_ ?_) <;> intro hc <;> have hc' := hc <;> try simp only [decide_eq_true_eq, decide_eq_false_iff_not, Bool.not_eq_true', Bool.not_eq_false', Bool.not_eq_true, Bool.not_eq_false, beq_iff_eq, bne_iff_ne, beq_eq_false_iff_ne, bne_eq_false_iff_eq, Int.not_lt, Int.not_le, ge_iff_le, gt_iff_lt, not_and, ne_eq, Decidable.not_not] at hc'
  all_goals (try (dsimp only [st, setL, AV.cells, List.set_cons_zero, List.set_cons_succ, List.drop_zero, List.drop_succ_cons, List.take_zero, List.take_succ_cons, Nat.zero_add, Nat.add_zero, Nat.reduceAdd, List.cons_append, List.nil_append, List.eraseIdx_cons_zero, List.eraseIdx_cons_succ]))
  all_goals (refine W ?_)
  · refine LS_mk 0 rfl rfl rfl rfl rfl (by omega) (by omega) (by omega) enI1 rfl fun b2 => ?_
    try (dsimp only [st, setL, AV.cells, List.set_cons_zero, List.set_cons_succ, List.drop_zero, List.drop_succ_cons, List.take_zero, List.take_succ_cons, Nat.zero_add, Nat.add_zero, Nat.reduceAdd, List.cons_append, List.nil_append, List.eraseIdx_cons_zero, List.eraseIdx_cons_succ])
    refine W ?_
    refine LS_is h0 (by omega) rfl rfl ?_
    try (dsimp only [st, setL, AV.cells, List.set_cons_zero, List.set_cons_succ, List.drop_zero, List.drop_succ_cons, List.take_zero, List.take_succ_cons, Nat.zero_add, Nat.add_zero, Nat.reduceAdd, List.cons_append, List.nil_append, List.eraseIdx_cons_zero, List.eraseIdx_cons_succ])
    refine W ?_
    refine LS_ss 1 0 i.toNat rfl (by simp; omega) (by omega) rfl enI1 (by decide) rfl rfl rfl ?_
    try (dsimp only [st, setL, AV.cells, List.set_cons_zero, List.set_cons_succ, List.drop_zero, List.drop_succ_cons, List.take_zero, List.take_succ_cons, Nat.zero_add, Nat.add_zero, Nat.reduceAdd, List.cons_append, List.nil_append, List.eraseIdx_cons_zero, List.eraseIdx_cons_succ])
    refine W ?_
    rw [set_unit]
    refine LS_ltV rfl rfl rfl rfl fun lit hlit slit => ?_
    try (dsimp only [st, setL, AV.cells, List.set_cons_zero, List.set_cons_succ, List.drop_zero, List.drop_succ_cons, List.take_zero, List.take_succ_cons, Nat.zero_add, Nat.add_zero, Nat.reduceAdd, List.cons_append, List.nil_append, List.eraseIdx_cons_zero, List.eraseIdx_cons_succ])
    refine W ?_
    refine LS_ap 2 rfl (fun h' HL => HL.rdI 0 rfl enV1 (by decide)) enV1 (by decide) (by simp) (by simp; omega) (by simp; omega) rfl rfl rfl fun w hw sw => ?_
    try (dsimp only [st, setL, AV.cells, List.set_cons_zero, List.set_cons_succ, List.drop_zero, List.drop_succ_cons, List.take_zero, List.take_succ_cons, Nat.zero_add, Nat.add_zero, Nat.reduceAdd, List.cons_append, List.nil_append, List.eraseIdx_cons_zero, List.eraseIdx_cons_succ])
    refine W ?_
    refine LIL_drop 1 (LIL_push [_, _] hul ?_)
    refine IH (n - 1) _ _ (by omega) ⟨w, i + 1, us ++ [AV.sl b2 0 p.n.toNat true], exJ rfl, by rw [toNat_succ h0, unit_next (by omega)]; rfl, by rw [toNat_succ h0]; simp [hus], by omega, by omega⟩
  · have hi : i.toNat = p.n.toNat := by omega
    have e0 : (unitsE p.n.toNat).take i.toNat = expsT p 0 := by rw [hi, List.take_of_length_le (by simp [unitsE])]; rfl
    rw [e0]
    clear IH
    rw [e0] at hul
    refine LIL_rot 1 rfl (LIL_drop 1 ?_)
    refine LIL_ind (fun n a L => ∃ (out : AV) (i : Int) (us : List AV), (∃ r : Nat → AV, a = [r 0, r 1, r 2, out, r 4, r 5, r 6, r 7, r 8, r 9, r 10, r 11, r 12, r 13, r 14, r 15, r 16, r 17, r 18, r 19, r 20, r 21, r 22, r 23, r 24, vs, .i .i64 p.steps.length, .i .i64 i, r 28, r 29, r 30, r 31, r 32, r 33, r 34, r 35, r 36, r 37, r 38, r 39, r 40, r 41, r 42, r 43, r 44, r 45, r 46]) ∧ L = .sl out 1 (us.flatMap enV) :: (rowsI us (expsT p i.toNat) ++ []) ∧ us.length = (expsT p i.toNat).length ∧ 0 ≤ i ∧ i + n = p.steps.length)
      p.steps.length ⟨out, 0, us, exJ rfl, rfl, hul, by omega, by omega⟩ ?_
    rintro n a L ⟨out, i, us, ⟨r, rfl⟩, rfl, hul, h0, hn⟩ IH
    obtain ⟨hel, hro⟩ := expsT_ok hf hn0 i.toNat (by omega)
    refine W ?_
    (first | refine LS_gt rfl ?_ ?_ | refine LS_gf rfl ?_ ?_ | refine LI_cond rfl ?_ ?_) <;> intro hc <;> have hc' := hc <;> try simp only [decide_eq_true_eq, decide_eq_false_iff_not, Bool.not_eq_true', Bool.not_eq_false', Bool.not_eq_true, Bool.not_eq_false, beq_iff_eq, bne_iff_ne, beq_eq_false_iff_ne, bne_eq_false_iff_eq, Int.not_lt, Int.not_le, ge_iff_le, gt_iff_lt, not_and, ne_eq, Decidable.not_not] at hc'
    all_goals (try (dsimp only [st, setL, AV.cells, List.set_cons_zero, List.set_cons_succ, List.drop_zero, List.drop_succ_cons, List.take_zero, List.take_succ_cons, Nat.zero_add, Nat.add_zero, Nat.reduceAdd, List.cons_append, List.nil_append, List.eraseIdx_cons_zero, List.eraseIdx_cons_succ]))
    all_goals (refine W ?_)
    · obtain ⟨s, hs', _, _⟩ := drop_at h0 hc'
      have hb := formedS_get hf hs'
      obtain ⟨u, hu⟩ := at_ (l := us) (i := s.1.toNat) (by omega)
      obtain ⟨u', hu'⟩ := at_ (l := us) (i := s.2.toNat) (by omega)
      have hx := getD_get (ll := expsT p i.toNat) (i := s.1.toNat) (by omega)
      have hy := getD_get (ll := expsT p i.toNat) (i := s.2.toNat) (by omega)
      have rx := hro _ (List.mem_of_getElem? hx)
      have ry := hro _ (List.mem_of_getElem? hy)
      refine LS_ix (fun h' HL => hs.le HL.le) enStep2 hs' h0 rfl rfl fun b o hrow => ?_
      try (dsimp only [st, setL, AV.cells, List.set_cons_zero, List.set_cons_succ, List.drop_zero, List.drop_succ_cons, List.take_zero, List.take_succ_cons, Nat.zero_add, Nat.add_zero, Nat.reduceAdd, List.cons_append, List.nil_append, List.eraseIdx_cons_zero, List.eraseIdx_cons_succ])
      refine W ?_
      refine LS_al rfl fun b5 => ?_
      try (dsimp only [st, setL, AV.cells, List.set_cons_zero, List.set_cons_succ, List.drop_zero, List.drop_succ_cons, List.take_zero, List.take_succ_cons, Nat.zero_add, Nat.add_zero, Nat.reduceAdd, List.cons_append, List.nil_append, List.eraseIdx_cons_zero, List.eraseIdx_cons_succ])
      refine W ?_
      refine dz136_0 ?_
      refine WX ?_
      refine W ?_
      refine LX_ix (fun h' HL => HL.rdI 1 rfl enV1 (by decide)) enV1 hu (by omega) rfl rfl noG fun q o2 hrow2 => ?_
      try (dsimp only [st, setL, AV.cells, List.set_cons_zero, List.set_cons_succ, List.drop_zero, List.drop_succ_cons, List.take_zero, List.take_succ_cons, Nat.zero_add, Nat.add_zero, Nat.reduceAdd, List.cons_append, List.nil_append, List.eraseIdx_cons_zero, List.eraseIdx_cons_succ])
      refine WX ?_
      refine W ?_
      refine LX_ix (fun h' HL => HL.rdI 1 rfl enV1 (by decide)) enV1 hu' (by omega) rfl rfl noG fun q' o3 hrow3 => ?_
      try (dsimp only [st, setL, AV.cells, List.set_cons_zero, List.set_cons_succ, List.drop_zero, List.drop_succ_cons, List.take_zero, List.take_succ_cons, Nat.zero_add, Nat.add_zero, Nat.reduceAdd, List.cons_append, List.nil_append, List.eraseIdx_cons_zero, List.eraseIdx_cons_succ])
      refine WX ?_
      refine W ?_
      refine LX_co (fun h' HL wf => plSum_ac _ _ u u' h'.frz (HL.rdM (List.mem_cons_of_mem _ (List.mem_cons_of_mem _ (List.mem_append_left _ (rowsI_get hu hx)))) enI1 (by decide)).frz (HL.rdM (List.mem_cons_of_mem _ (List.mem_cons_of_mem _ (List.mem_append_left _ (rowsI_get hu' hy)))) enI1 (by decide)).frz (by omega) (by omega) rx.2 ry.2) enI1 rfl rfl noG fun w1 hw1 sw1 => ?_
      try (dsimp only [st, setL, AV.cells, List.set_cons_zero, List.set_cons_succ, List.drop_zero, List.drop_succ_cons, List.take_zero, List.take_succ_cons, Nat.zero_add, Nat.add_zero, Nat.reduceAdd, List.cons_append, List.nil_append, List.eraseIdx_cons_zero, List.eraseIdx_cons_succ])
      refine WX ?_
      refine W ?_
      refine LX_ltV rfl rfl sw1 rfl noG fun lit hlit slit => ?_
      try (dsimp only [st, setL, AV.cells, List.set_cons_zero, List.set_cons_succ, List.drop_zero, List.drop_succ_cons, List.take_zero, List.take_succ_cons, Nat.zero_add, Nat.add_zero, Nat.reduceAdd, List.cons_append, List.nil_append, List.eraseIdx_cons_zero, List.eraseIdx_cons_succ])
      refine WX ?_
      refine W ?_
      refine LX_f noG (LO_ap 3 rfl (fun h' HL => HL.rdI 0 rfl enV1 (by decide)) enV1 (by decide) (by simp) (by simp; omega) (by simp; omega) rfl rfl rfl fun w hw sw => ?_)
      try (dsimp only [st, setL, AV.cells, List.set_cons_zero, List.set_cons_succ, List.drop_zero, List.drop_succ_cons, List.take_zero, List.take_succ_cons, Nat.zero_add, Nat.add_zero, Nat.reduceAdd, List.cons_append, List.nil_append, List.eraseIdx_cons_zero, List.eraseIdx_cons_succ])
      refine WX ?_
      refine W ?_
      refine LIL_drop 1 (LIL_rot 1 rfl (LIL_drop 1 (LIL_push [_] hul ?_)))
      refine IH (n - 1) _ _ (by omega) ⟨w, i + 1, us ++ [w1], exJ rfl, by rw [toNat_succ h0, expsT_succ hs']; rfl, by rw [toNat_succ h0, expsT_succ hs']; simp [stepE, hul], by omega, by omega⟩
    · have e : i.toNat = p.steps.length := by omega
      rw [e, expsT_end] at hul
      rw [e, expsT_end]
      refine RET fun h' HL => ?_
      try dsimp only [oneA]
      have hO := HL.rdI 0 rfl enV1 (by decide)
      exact ⟨_, ⟨us, hul, hO.len, rd_sc hO, rfl⟩, HL⟩

/-! ### What a plan is -/
def planForm (p : PlanM) : Bool := decide (1 ≤ p.n ∧ p.n ≤ 6) && (decide ((p.steps.length : Int) ≤ 40) && (decide ((p.outs.length : Int) ≤ 6) && formedS p.n 0 p.steps))

def smallE (p : PlanM) : Bool := (expsE p).all fun r => r.all fun x => decide (0 ≤ x ∧ x ≤ 1000000)

def outsOk (p : PlanM) : Bool := p.outs.all fun v => decide (0 ≤ v ∧ v ≤ p.n + p.steps.length - 1)

def planOk (p : PlanM) : Bool := planForm p && (smallE p && outsOk p)

theorem planForm_out {p : PlanM} (h : planForm p = true) : 1 ≤ p.n ∧ p.n ≤ 6 ∧ p.steps.length ≤ 40 ∧ p.outs.length ≤ 6 ∧ formedS p.n 0 p.steps = true := by
  simp only [planForm, Bool.and_eq_true, decide_eq_true_eq] at h
  obtain ⟨⟨h1, h2⟩, h3, h4, h5⟩ := h
  exact ⟨h1, h2, by omega, by omega, h5⟩

theorem formedS_drop {n : Int} {l : List (Int × Int)} {i : Nat} {s : Int × Int} (hd : l.drop i = s :: l.drop (i + 1)) : formedS n i (l.drop i) = (decide (0 ≤ s.1 ∧ s.1 ≤ s.2 ∧ s.2 < n + i) && formedS n (i + 1) (l.drop (i + 1))) := by rw [hd, formedS]

theorem rowsI_in {us : List AV} {ll : List (List Int)} {i : Nat} {u : AV} {l : List Int} {B : List It} (hu : us[i]? = some u) (hl : ll[i]? = some l) : It.sl u 1 (l.flatMap enI) ∈ rowsI us ll ++ B := List.mem_append_left _ (rowsI_get hu hl)

theorem plGood_ac (p : PlanM) (v : AV) (h : AH) (hR : PlR h v p) (hw : inI p.n) (hl : p.steps.length ≤ 1048576) (hl2 : p.outs.length ≤ 1048576) (hw2 : ∀ s ∈ p.steps, inI s.1 ∧ inI s.2) :
    AC Try.prog 85 [v] h (fun r h' => r = .b (planOk p) ∧ h.le h') := by
  have hR0 := hR
  obtain ⟨vs, vo, rfl, hs, ho⟩ := hR
  have bad : planForm p = false → planOk p = false := fun e => by simp only [planOk, e, Bool.false_and]
  refine e85 _ fun wf => ?_
  unfold c85
  refine LI_start wf ?_
  refine W ?_
  refine LS_bxn rfl (sc_cons rfl (sc_cons (rd_sc hs) (sc_cons (rd_sc ho) rfl))) fun b1 => ?_
  try (dsimp only [st, setL, AV.cells, List.set_cons_zero, List.set_cons_succ, List.drop_zero, List.drop_succ_cons, List.take_zero, List.take_succ_cons, Nat.zero_add, Nat.add_zero, Nat.reduceAdd, List.cons_append, List.nil_append, List.eraseIdx_cons_zero, List.eraseIdx_cons_succ])
  refine W ?_
  refine LS_c0' (fun h' HL wf => l1In_ac p.n 1 6 h') rfl rfl ?_
  try (dsimp only [st, setL, AV.cells, List.set_cons_zero, List.set_cons_succ, List.drop_zero, List.drop_succ_cons, List.take_zero, List.take_succ_cons, Nat.zero_add, Nat.add_zero, Nat.reduceAdd, List.cons_append, List.nil_append, List.eraseIdx_cons_zero, List.eraseIdx_cons_succ])
  refine W ?_
  (first | refine LS_gt rfl ?_ ?_ | refine LS_gf rfl ?_ ?_ | refine LI_cond rfl ?_ ?_) <;> intro hc <;> have hc' := hc <;> try simp only [decide_eq_true_eq, decide_eq_false_iff_not, Bool.not_eq_true', Bool.not_eq_false', Bool.not_eq_true, Bool.not_eq_false, beq_iff_eq, bne_iff_ne, beq_eq_false_iff_ne, bne_eq_false_iff_eq, Int.not_lt, Int.not_le, ge_iff_le, gt_iff_lt, not_and, ne_eq, Decidable.not_not] at hc'
  all_goals (try (dsimp only [st, setL, AV.cells, List.set_cons_zero, List.set_cons_succ, List.drop_zero, List.drop_succ_cons, List.take_zero, List.take_succ_cons, Nat.zero_add, Nat.add_zero, Nat.reduceAdd, List.cons_append, List.nil_append, List.eraseIdx_cons_zero, List.eraseIdx_cons_succ]))
  all_goals (refine W ?_)
  · have hn := of_decide_eq_true (nf hc)
    (first | refine LS_gt rfl ?_ ?_ | refine LS_gf rfl ?_ ?_ | refine LI_cond rfl ?_ ?_) <;> intro hc <;> have hc' := hc <;> try simp only [decide_eq_true_eq, decide_eq_false_iff_not, Bool.not_eq_true', Bool.not_eq_false', Bool.not_eq_true, Bool.not_eq_false, beq_iff_eq, bne_iff_ne, beq_eq_false_iff_ne, bne_eq_false_iff_eq, Int.not_lt, Int.not_le, ge_iff_le, gt_iff_lt, not_and, ne_eq, Decidable.not_not] at hc'
    all_goals (try (dsimp only [st, setL, AV.cells, List.set_cons_zero, List.set_cons_succ, List.drop_zero, List.drop_succ_cons, List.take_zero, List.take_succ_cons, Nat.zero_add, Nat.add_zero, Nat.reduceAdd, List.cons_append, List.nil_append, List.eraseIdx_cons_zero, List.eraseIdx_cons_succ]))
    all_goals (refine W ?_)
    · have hl40 := hc'
      (first | refine LS_gt rfl ?_ ?_ | refine LS_gf rfl ?_ ?_ | refine LI_cond rfl ?_ ?_) <;> intro hc <;> have hc' := hc <;> try simp only [decide_eq_true_eq, decide_eq_false_iff_not, Bool.not_eq_true', Bool.not_eq_false', Bool.not_eq_true, Bool.not_eq_false, beq_iff_eq, bne_iff_ne, beq_eq_false_iff_ne, bne_eq_false_iff_eq, Int.not_lt, Int.not_le, ge_iff_le, gt_iff_lt, not_and, ne_eq, Decidable.not_not] at hc'
      all_goals (try (dsimp only [st, setL, AV.cells, List.set_cons_zero, List.set_cons_succ, List.drop_zero, List.drop_succ_cons, List.take_zero, List.take_succ_cons, Nat.zero_add, Nat.add_zero, Nat.reduceAdd, List.cons_append, List.nil_append, List.eraseIdx_cons_zero, List.eraseIdx_cons_succ]))
      all_goals (refine W ?_)
      · rw [bad (by simp only [planForm]; simp; omega)]
        refine RET fun h' HL => ?_
        try dsimp only [oneA]
        exact ⟨rfl, HL.le⟩
      · have ho6 := hc'
        have hpf : planForm p = formedS p.n 0 p.steps := by
          simp only [planForm, hn, and_self, decide_true, Bool.true_and]
          rw [decide_eq_true (by omega), decide_eq_true (by omega)]
          simp
        refine LIL_ind (fun n a L => ∃ (i : Int), (∃ r : Nat → AV, a = [r 0, .p b1 0, r 2, r 3, r 4, r 5, r 6, r 7, r 8, r 9, r 10, r 11, r 12, r 13, r 14, r 15, r 16, r 17, r 18, r 19, r 20, r 21, r 22, r 23, vs, .i .i64 p.steps.length, .i .i64 i, r 27, r 28, r 29, r 30, r 31, r 32, r 33, r 34, r 35, r 36, r 37, r 38, r 39, r 40, r 41, r 42, r 43, r 44, r 45, r 46, r 47, r 48, r 49, r 50, r 51, r 52, r 53, r 54, r 55, r 56, r 57, r 58, r 59, r 60, r 61, r 62, r 63, r 64, r 65, r 66, r 67]) ∧ L = [.pt b1 [.i .i64 p.n, vs, vo]] ∧ 0 ≤ i ∧ i + n = p.steps.length ∧ formedS p.n 0 p.steps = formedS p.n i.toNat (p.steps.drop i.toNat))
          p.steps.length ⟨0, exJ rfl, rfl, by omega, by omega, rfl⟩ ?_
        rintro n a L ⟨i, ⟨r, rfl⟩, rfl, h0, hni, hfs⟩ IH
        refine W ?_
        (first | refine LS_gt rfl ?_ ?_ | refine LS_gf rfl ?_ ?_ | refine LI_cond rfl ?_ ?_) <;> intro hc <;> have hc' := hc <;> try simp only [decide_eq_true_eq, decide_eq_false_iff_not, Bool.not_eq_true', Bool.not_eq_false', Bool.not_eq_true, Bool.not_eq_false, beq_iff_eq, bne_iff_ne, beq_eq_false_iff_ne, bne_eq_false_iff_eq, Int.not_lt, Int.not_le, ge_iff_le, gt_iff_lt, not_and, ne_eq, Decidable.not_not] at hc'
        all_goals (try (dsimp only [st, setL, AV.cells, List.set_cons_zero, List.set_cons_succ, List.drop_zero, List.drop_succ_cons, List.take_zero, List.take_succ_cons, Nat.zero_add, Nat.add_zero, Nat.reduceAdd, List.cons_append, List.nil_append, List.eraseIdx_cons_zero, List.eraseIdx_cons_succ]))
        all_goals (refine W ?_)
        · obtain ⟨s, hs', hsm, hd⟩ := drop_at h0 hc'
          have hws := hw2 s hsm
          rw [formedS_drop hd] at hfs
          refine LS_ix (fun h' HL => hs.le HL.le) enStep2 hs' h0 rfl rfl fun b o hrow => ?_
          try (dsimp only [st, setL, AV.cells, List.set_cons_zero, List.set_cons_succ, List.drop_zero, List.drop_succ_cons, List.take_zero, List.take_succ_cons, Nat.zero_add, Nat.add_zero, Nat.reduceAdd, List.cons_append, List.nil_append, List.eraseIdx_cons_zero, List.eraseIdx_cons_succ])
          refine W ?_
          refine LS_al rfl fun b3 => ?_
          try (dsimp only [st, setL, AV.cells, List.set_cons_zero, List.set_cons_succ, List.drop_zero, List.drop_succ_cons, List.take_zero, List.take_succ_cons, Nat.zero_add, Nat.add_zero, Nat.reduceAdd, List.cons_append, List.nil_append, List.eraseIdx_cons_zero, List.eraseIdx_cons_succ])
          refine W ?_
          refine LS_c0' (fun h' HL wf => l1In_ac s.1 0 s.2 h') rfl rfl ?_
          try (dsimp only [st, setL, AV.cells, List.set_cons_zero, List.set_cons_succ, List.drop_zero, List.drop_succ_cons, List.take_zero, List.take_succ_cons, Nat.zero_add, Nat.add_zero, Nat.reduceAdd, List.cons_append, List.nil_append, List.eraseIdx_cons_zero, List.eraseIdx_cons_succ])
          refine W ?_
          (first | refine LS_gt rfl ?_ ?_ | refine LS_gf rfl ?_ ?_ | refine LI_cond rfl ?_ ?_) <;> intro hc <;> have hc' := hc <;> try simp only [decide_eq_true_eq, decide_eq_false_iff_not, Bool.not_eq_true', Bool.not_eq_false', Bool.not_eq_true, Bool.not_eq_false, beq_iff_eq, bne_iff_ne, beq_eq_false_iff_ne, bne_eq_false_iff_eq, Int.not_lt, Int.not_le, ge_iff_le, gt_iff_lt, not_and, ne_eq, Decidable.not_not] at hc'
          all_goals (try (dsimp only [st, setL, AV.cells, List.set_cons_zero, List.set_cons_succ, List.drop_zero, List.drop_succ_cons, List.take_zero, List.take_succ_cons, Nat.zero_add, Nat.add_zero, Nat.reduceAdd, List.cons_append, List.nil_append, List.eraseIdx_cons_zero, List.eraseIdx_cons_succ]))
          all_goals (refine W ?_)
          · have hs12 := of_decide_eq_true (nf hc)
            (first | refine LS_gt rfl ?_ ?_ | refine LS_gf rfl ?_ ?_ | refine LI_cond rfl ?_ ?_) <;> intro hc <;> have hc' := hc <;> try simp only [decide_eq_true_eq, decide_eq_false_iff_not, Bool.not_eq_true', Bool.not_eq_false', Bool.not_eq_true, Bool.not_eq_false, beq_iff_eq, bne_iff_ne, beq_eq_false_iff_ne, bne_eq_false_iff_eq, Int.not_lt, Int.not_le, ge_iff_le, gt_iff_lt, not_and, ne_eq, Decidable.not_not] at hc'
            all_goals (try (dsimp only [st, setL, AV.cells, List.set_cons_zero, List.set_cons_succ, List.drop_zero, List.drop_succ_cons, List.take_zero, List.take_succ_cons, Nat.zero_add, Nat.add_zero, Nat.reduceAdd, List.cons_append, List.nil_append, List.eraseIdx_cons_zero, List.eraseIdx_cons_succ]))
            all_goals (refine W ?_)
            · rw [bad (by rw [hpf, hfs, decide_eq_false (by omega)]; rfl)]
              refine RET fun h' HL => ?_
              try dsimp only [oneA]
              exact ⟨rfl, HL.le⟩
            · refine LIL_drop 1 ?_
              refine IH (n - 1) _ _ (by omega) ⟨i + 1, exJ rfl, rfl, by omega, by omega, ?_⟩
              rw [hfs, decide_eq_true (by omega), Bool.true_and, toNat_succ h0]
          · have hs12 := of_decide_eq_false (nt hc)
            rw [bad (by rw [hpf, hfs, decide_eq_false (by omega)]; rfl)]
            refine RET fun h' HL => ?_
            try dsimp only [oneA]
            exact ⟨rfl, HL.le⟩
        · have e : i.toNat = p.steps.length := by omega
          rw [e, List.drop_length] at hfs
          have hfs' : formedS p.n 0 p.steps = true := hfs
          have hok : planOk p = (smallE p && outsOk p) := by simp only [planOk, hpf, hfs', Bool.true_and]
          clear IH
          refine LS_c1 (fun h' HL wf => plExponents_ac p _ h' (hR0.le HL.le) hn.1 hn.2 (by omega) hfs') rfl rfl ?_
          try (dsimp only [st, setL, AV.cells, List.set_cons_zero, List.set_cons_succ, List.drop_zero, List.drop_succ_cons, List.take_zero, List.take_succ_cons, Nat.zero_add, Nat.add_zero, Nat.reduceAdd, List.cons_append, List.nil_append, List.eraseIdx_cons_zero, List.eraseIdx_cons_succ])
          refine W ?_
          rintro ex M ⟨us, hus, hrl, hrs, rfl⟩
          have hlen := (expsT_ok hfs' hn.1 p.steps.length (Nat.le_refl _)).1
          rw [expsT_end] at hlen
          try (dsimp only [st, setL, AV.cells, List.set_cons_zero, List.set_cons_succ, List.drop_zero, List.drop_succ_cons, List.take_zero, List.take_succ_cons, Nat.zero_add, Nat.add_zero, Nat.reduceAdd, List.cons_append, List.nil_append, List.eraseIdx_cons_zero, List.eraseIdx_cons_succ])
          unfold ssI
          refine W ?_
          refine LIL_ind (fun n a L => ∃ (i : Int), (∃ r : Nat → AV, a = [r 0, .p b1 0, r 2, r 3, r 4, r 5, r 6, r 7, r 8, r 9, r 10, r 11, r 12, r 13, r 14, r 15, r 16, r 17, r 18, r 19, r 20, r 21, r 22, r 23, r 24, r 25, r 26, r 27, r 28, r 29, r 30, r 31, r 32, r 33, r 34, r 35, r 36, r 37, r 38, r 39, r 40, r 41, r 42, r 43, r 44, r 45, r 46, r 47, ex, .i .i64 us.length, .i .i64 i, r 51, r 52, r 53, r 54, r 55, r 56, r 57, r 58, r 59, r 60, r 61, r 62, r 63, r 64, r 65, r 66, r 67]) ∧ L = .sl ex 1 (us.flatMap enV) :: (rowsI us (expsE p) ++ [] ++ [.pt b1 [.i .i64 p.n, vs, vo]]) ∧ 0 ≤ i ∧ i + n = us.length ∧ smallE p = ((expsE p).drop i.toNat).all fun r => r.all fun x => decide (0 ≤ x ∧ x ≤ 1000000))
            us.length ⟨0, exJ rfl, rfl, by omega, by omega, rfl⟩ ?_
          rintro n a L ⟨i, ⟨r, rfl⟩, rfl, h0, hni, hsm⟩ IH
          refine W ?_
          (first | refine LS_gt rfl ?_ ?_ | refine LS_gf rfl ?_ ?_ | refine LI_cond rfl ?_ ?_) <;> intro hc <;> have hc' := hc <;> try simp only [decide_eq_true_eq, decide_eq_false_iff_not, Bool.not_eq_true', Bool.not_eq_false', Bool.not_eq_true, Bool.not_eq_false, beq_iff_eq, bne_iff_ne, beq_eq_false_iff_ne, bne_eq_false_iff_eq, Int.not_lt, Int.not_le, ge_iff_le, gt_iff_lt, not_and, ne_eq, Decidable.not_not] at hc'
          all_goals (try (dsimp only [st, setL, AV.cells, List.set_cons_zero, List.set_cons_succ, List.drop_zero, List.drop_succ_cons, List.take_zero, List.take_succ_cons, Nat.zero_add, Nat.add_zero, Nat.reduceAdd, List.cons_append, List.nil_append, List.eraseIdx_cons_zero, List.eraseIdx_cons_succ]))
          all_goals (refine W ?_)
          · obtain ⟨u, hu, _, _⟩ := drop_at (l := us) h0 hc'
            obtain ⟨e, he, hem, hd⟩ := drop_at (l := expsE p) h0 (by omega)
            have hel := (expsT_ok hfs' hn.1 p.steps.length (Nat.le_refl _)).2
            rw [expsT_end] at hel
            have hel6 := (hel e hem).1
            rw [hd, List.all_cons] at hsm
            refine LS_ix (fun h' HL => HL.rdI 0 rfl enV1 (by decide)) enV1 hu h0 rfl rfl fun b o hrow => ?_
            try (dsimp only [st, setL, AV.cells, List.set_cons_zero, List.set_cons_succ, List.drop_zero, List.drop_succ_cons, List.take_zero, List.take_succ_cons, Nat.zero_add, Nat.add_zero, Nat.reduceAdd, List.cons_append, List.nil_append, List.eraseIdx_cons_zero, List.eraseIdx_cons_succ])
            refine W ?_
            refine LS_c0' (fun h' HL wf => l1All_ac e u 0 1000000 h' (HL.rdM (List.mem_cons_of_mem _ (List.mem_append_left _ (rowsI_in hu he))) enI1 (by decide)) (by omega)) rfl rfl ?_
            try (dsimp only [st, setL, AV.cells, List.set_cons_zero, List.set_cons_succ, List.drop_zero, List.drop_succ_cons, List.take_zero, List.take_succ_cons, Nat.zero_add, Nat.add_zero, Nat.reduceAdd, List.cons_append, List.nil_append, List.eraseIdx_cons_zero, List.eraseIdx_cons_succ])
            refine W ?_
            (first | refine LS_gt rfl ?_ ?_ | refine LS_gf rfl ?_ ?_ | refine LI_cond rfl ?_ ?_) <;> intro hc <;> have hc' := hc <;> try simp only [decide_eq_true_eq, decide_eq_false_iff_not, Bool.not_eq_true', Bool.not_eq_false', Bool.not_eq_true, Bool.not_eq_false, beq_iff_eq, bne_iff_ne, beq_eq_false_iff_ne, bne_eq_false_iff_eq, Int.not_lt, Int.not_le, ge_iff_le, gt_iff_lt, not_and, ne_eq, Decidable.not_not] at hc'
            all_goals (try (dsimp only [st, setL, AV.cells, List.set_cons_zero, List.set_cons_succ, List.drop_zero, List.drop_succ_cons, List.take_zero, List.take_succ_cons, Nat.zero_add, Nat.add_zero, Nat.reduceAdd, List.cons_append, List.nil_append, List.eraseIdx_cons_zero, List.eraseIdx_cons_succ]))
            all_goals (refine W ?_)
            · rw [hok, hsm, nt hc]
              refine RET fun h' HL => ?_
              try dsimp only [oneA]
              exact ⟨rfl, HL.le⟩
            · refine IH (n - 1) _ _ (by omega) ⟨i + 1, exJ rfl, rfl, by omega, by omega, ?_⟩
              rw [hsm, nf hc, Bool.true_and, toNat_succ h0]
          · rw [List.drop_eq_nil_of_le (by omega)] at hsm
            have hsm' : smallE p = true := hsm
            refine LS_rot (x := .pt b1 [.i .i64 p.n, vs, vo]) ((rowsI us (expsE p) ++ []).length + 1) (by simp) ?_
            refine W ?_
            refine LS_c0' (fun h' HL wf => l1All_ac p.outs vo 0 (p.n + p.steps.length - 1) h' (ho.le HL.le) (by omega)) rfl rfl ?_
            try (dsimp only [st, setL, AV.cells, List.set_cons_zero, List.set_cons_succ, List.drop_zero, List.drop_succ_cons, List.take_zero, List.take_succ_cons, Nat.zero_add, Nat.add_zero, Nat.reduceAdd, List.cons_append, List.nil_append, List.eraseIdx_cons_zero, List.eraseIdx_cons_succ])
            refine W ?_
            rw [hok, hsm', Bool.true_and]
            refine RET fun h' HL => ?_
            try dsimp only [oneA]
            exact ⟨rfl, HL.le⟩
    · rw [bad (by simp only [planForm]; simp; omega)]
      refine RET fun h' HL => ?_
      try dsimp only [oneA]
      exact ⟨rfl, HL.le⟩
  · have hn := of_decide_eq_false (nt hc)
    rw [bad (by simp only [planForm, decide_eq_false hn, Bool.false_and])]
    refine RET fun h' HL => ?_
    try dsimp only [oneA]
    exact ⟨rfl, HL.le⟩

/-! ### The same of the program -/
theorem IndexFuncSS_ac (ll : List (List Int)) (us : List AV) (v : AV) (g : FuncId) (caps : List AV) (q : List Int → Bool) (h : AH) (hR : RdG 1 enV h v us) (hlen : us.length = ll.length) (hl : us.length ≤ 4611686018427387904)
    (hp : ∀ (i : Nat) (u : AV) (x : List Int), us[i]? = some u → ll[i]? = some x → ∀ h', h.le h' → AC Try.prog g (u :: caps) h' (fun r h'' => r = .b (q x) ∧ h'.le h'')) :
    AC Try.prog 157 [v, .f g caps] h (fun r h' => r = .i .i64 (idxFrom q ll 0) ∧ h.le h') := by
  refine e157 _ _ fun wf => ?_
  unfold c157
  refine LI_start wf ?_
  refine W ?_
  refine LIL_ind (fun n a L => ∃ (i : Int), (∃ r : Nat → AV, a = [v, .f g caps, r 2, r 3, r 4, r 5, v, .i .i64 us.length, .i .i64 i, r 9, r 10, r 11, r 12, r 13, r 14, r 15, r 16, r 17, r 18]) ∧ L = [] ∧ 0 ≤ i ∧ i + n = us.length ∧ idxFrom q ll 0 = idxFrom q (ll.drop i.toNat) i)
    us.length ⟨0, exJ rfl, rfl, by omega, by omega, rfl⟩ ?_
  rintro n a L ⟨i, ⟨r, rfl⟩, rfl, h0, hn, hidx⟩ IH
  refine W ?_
  (first | refine LS_gt rfl ?_ ?_ | refine LS_gf rfl ?_ ?_ | refine LI_cond rfl ?_ ?_) <;> intro hc <;> have hc' := hc <;> try simp only [decide_eq_true_eq, decide_eq_false_iff_not, Bool.not_eq_true', Bool.not_eq_false', Bool.not_eq_true, Bool.not_eq_false, beq_iff_eq, bne_iff_ne, beq_eq_false_iff_ne, bne_eq_false_iff_eq, Int.not_lt, Int.not_le, ge_iff_le, gt_iff_lt, not_and, ne_eq, Decidable.not_not] at hc'
  all_goals (try (dsimp only [st, setL, AV.cells, List.set_cons_zero, List.set_cons_succ, List.drop_zero, List.drop_succ_cons, List.take_zero, List.take_succ_cons, Nat.zero_add, Nat.add_zero, Nat.reduceAdd, List.cons_append, List.nil_append, List.eraseIdx_cons_zero, List.eraseIdx_cons_succ]))
  all_goals (refine W ?_)
  · obtain ⟨u, hu, _, _⟩ := drop_at (l := us) h0 hc'
    obtain ⟨y, hy, hym, hd⟩ := drop_at (l := ll) h0 (by omega)
    rw [hd] at hidx
    refine LS_ix (fun h' HL => hR.le HL.le) enV1 hu h0 rfl rfl fun b o hrow => ?_
    try (dsimp only [st, setL, AV.cells, List.set_cons_zero, List.set_cons_succ, List.drop_zero, List.drop_succ_cons, List.take_zero, List.take_succ_cons, Nat.zero_add, Nat.add_zero, Nat.reduceAdd, List.cons_append, List.nil_append, List.eraseIdx_cons_zero, List.eraseIdx_cons_succ])
    refine W ?_
    refine LS_c0 (fun h' HL wf => hp i.toNat u y hu hy h' HL.le) rfl rfl ?_
    try (dsimp only [st, setL, AV.cells, List.set_cons_zero, List.set_cons_succ, List.drop_zero, List.drop_succ_cons, List.take_zero, List.take_succ_cons, Nat.zero_add, Nat.add_zero, Nat.reduceAdd, List.cons_append, List.nil_append, List.eraseIdx_cons_zero, List.eraseIdx_cons_succ])
    refine W ?_
    (first | refine LS_gt rfl ?_ ?_ | refine LS_gf rfl ?_ ?_ | refine LI_cond rfl ?_ ?_) <;> intro hc <;> have hc' := hc <;> try simp only [decide_eq_true_eq, decide_eq_false_iff_not, Bool.not_eq_true', Bool.not_eq_false', Bool.not_eq_true, Bool.not_eq_false, beq_iff_eq, bne_iff_ne, beq_eq_false_iff_ne, bne_eq_false_iff_eq, Int.not_lt, Int.not_le, ge_iff_le, gt_iff_lt, not_and, ne_eq, Decidable.not_not] at hc'
    all_goals (try (dsimp only [st, setL, AV.cells, List.set_cons_zero, List.set_cons_succ, List.drop_zero, List.drop_succ_cons, List.take_zero, List.take_succ_cons, Nat.zero_add, Nat.add_zero, Nat.reduceAdd, List.cons_append, List.nil_append, List.eraseIdx_cons_zero, List.eraseIdx_cons_succ]))
    all_goals (refine W ?_)
    · refine RET fun h' HL => ?_
      try dsimp only [oneA]
      refine ⟨?_, HL.le⟩
      rw [hidx]
      simp [idxFrom, hc]
    · refine IH (n - 1) _ _ (by omega) ⟨i + 1, exJ rfl, rfl, by omega, by omega, ?_⟩
      rw [hidx, toNat_succ h0]
      simp [idxFrom, hc]
  · refine RET fun h' HL => ?_
    try dsimp only [oneA]
    refine ⟨?_, HL.le⟩
    rw [hidx, List.drop_eq_nil_of_le (by omega)]
    rfl

theorem ContainsFuncSS_ac (ll : List (List Int)) (us : List AV) (v : AV) (g : FuncId) (caps : List AV) (q : List Int → Bool) (h : AH) (hR : RdG 1 enV h v us) (hlen : us.length = ll.length) (hl : us.length ≤ 4611686018427387904)
    (hp : ∀ (i : Nat) (u : AV) (x : List Int), us[i]? = some u → ll[i]? = some x → ∀ h', h.le h' → AC Try.prog g (u :: caps) h' (fun r h'' => r = .b (q x) ∧ h'.le h'')) :
    AC Try.prog 132 [v, .f g caps] h (fun r h' => r = .b (ll.any q) ∧ h.le h') := by
  refine e132 _ _ fun wf => ?_
  unfold c132
  refine LI_start wf ?_
  refine W ?_
  refine LS_c0 (fun h' HL wf => IndexFuncSS_ac ll us v g caps q h' (hR.le HL.le) hlen hl (fun i u x hu hx h2 hle => hp i u x hu hx h2 (HL.le.trans hle))) rfl rfl ?_
  try (dsimp only [st, setL, AV.cells, List.set_cons_zero, List.set_cons_succ, List.drop_zero, List.drop_succ_cons, List.take_zero, List.take_succ_cons, Nat.zero_add, Nat.add_zero, Nat.reduceAdd, List.cons_append, List.nil_append, List.eraseIdx_cons_zero, List.eraseIdx_cons_succ])
  refine W ?_
  refine RET fun h' HL => ?_
  try dsimp only [oneA]
  refine ⟨?_, HL.le⟩
  simp only [← idxFrom_any q ll 0 (by omega), ge_iff_le]

structure PlP (h : AH) (b : Nat) (p : PlanM) (vs vo : AV) : Prop where
  row : h.row b 0 3 = some [.i .i64 p.n, vs, vo]
  steps : RdG 2 enStep h vs p.steps
  outs : Rd h vo p.outs

theorem PlP.le {h h' : AH} {b : Nat} {p : PlanM} {vs vo : AV} (H : PlP h b p vs vo) (hle : h.le h') : PlP h' b p vs vo := ⟨hle.row H.row, H.steps.le hle, H.outs.le hle⟩

theorem PlP.frz {h : AH} {b : Nat} {p : PlanM} {vs vo : AV} (H : PlP h b p vs vo) : PlP h.frz b p vs vo := ⟨H.row, H.steps.frz, H.outs.frz⟩

theorem PlP.c0 {h : AH} {b : Nat} {p : PlanM} {vs vo : AV} (H : PlP h b p vs vo) : h.cell b 0 = some (.i .i64 p.n) := row_cell H.row (j := 0) (by decide)

theorem PlP.c1 {h : AH} {b : Nat} {p : PlanM} {vs vo : AV} (H : PlP h b p vs vo) : h.cell b 1 = some vs := row_cell H.row (j := 1) (by decide)

theorem PlP.c2 {h : AH} {b : Nat} {p : PlanM} {vs vo : AV} (H : PlP h b p vs vo) : h.cell b 2 = some vo := row_cell H.row (j := 2) (by decide)

theorem many_ac (p : PlanM) (b : Nat) (vs vo : AV) (h : AH) (hp : PlP h b p vs vo) (hb0 : -10 ≤ p.n) (hb1 : p.n ≤ 1048576) (hl : p.steps.length ≤ 1048576) :
    AC Try.prog 115 [.p b 0] h (fun r h' => r = .i .i64 (p.n + p.steps.length) ∧ h.le h') := by
  have c0 := hp.c0
  have c1 := hp.c1
  have hs := hp.steps
  refine e115 _ fun wf => ?_
  unfold c115
  refine LI_start wf ?_
  refine W ?_
  refine dz115_0 ?_
  refine WX ?_
  refine W ?_
  refine RET fun h' HL => ?_
  try dsimp only [oneA]
  exact ⟨rfl, HL.le⟩

theorem exponents_ac (p : PlanM) (b : Nat) (vs vo : AV) (h : AH) (hp : PlP h b p vs vo) (hn0 : 1 ≤ p.n) (hn1 : p.n ≤ 6) (hl : p.steps.length ≤ 40) (hf : formedS p.n 0 p.steps = true) :
    AC Try.prog 133 [.p b 0] h (fun r h' => ∃ M, (∃ us, us.length = (expsE p).length ∧ lenA r = some us.length ∧ r.sc = true ∧ M = ssI r us (expsE p)) ∧ Loq h h' M) := by
  have c0 := hp.c0
  have c1 := hp.c1
  have hs := hp.steps
  refine e133 _ fun wf => ?_
  unfold c133
  refine LI_start wf ?_
  refine W ?_
  refine LS_lt ([] : List AV) rfl rfl (by decide) rfl rfl rfl rfl enV1 rfl rfl fun lit0 hlit0 slit0 => ?_
  try (dsimp only [st, setL, AV.cells, List.set_cons_zero, List.set_cons_succ, List.drop_zero, List.drop_succ_cons, List.take_zero, List.take_succ_cons, Nat.zero_add, Nat.add_zero, Nat.reduceAdd, List.cons_append, List.nil_append, List.eraseIdx_cons_zero, List.eraseIdx_cons_succ])
  refine W ?_
  refine LIL_ind (fun n a L => ∃ (out : AV) (i : Int) (us : List AV), (∃ r : Nat → AV, a = [.p b 0, r 1, r 2, out, r 4, r 5, r 6, r 7, r 8, r 9, r 10, r 11, r 12, r 13, r 14, .i .i64 p.n, .i .i64 i, r 17, r 18, r 19, r 20, r 21, r 22, r 23, r 24, r 25, r 26, r 27, r 28, r 29, r 30, r 31, r 32, r 33, r 34, r 35, r 36, r 37, r 38, r 39, r 40, r 41, r 42, r 43, r 44, r 45, r 46, r 47, r 48, r 49, r 50, r 51, r 52, r 53, r 54, r 55, r 56, r 57, r 58, r 59, r 60, r 61, r 62, r 63, r 64, r 65, r 66, r 67, r 68, r 69, r 70, r 71, r 72, r 73]) ∧ L = .sl out 1 (us.flatMap enV) :: (rowsI us ((unitsE p.n.toNat).take i.toNat) ++ []) ∧ us.length = i.toNat ∧ 0 ≤ i ∧ i + n = p.n)
    p.n.toNat ⟨lit0, 0, [], exJ rfl, rfl, rfl, by omega, by omega⟩ ?_
  rintro n a L ⟨out, i, us, ⟨r, rfl⟩, rfl, hus, h0, hn⟩ IH
  have hul : us.length = ((unitsE p.n.toNat).take i.toNat).length := by rw [hus]; simp [unitsE]; omega
  refine W ?_
  (first | refine LS_gt rfl ?_ ?_ | refine LS_gf rfl ?_ ?_ | refine LI_cond rfl ?_ ?_) <;> intro hc <;> have hc' := hc <;> try simp only [decide_eq_true_eq, decide_eq_false_iff_not, Bool.not_eq_true', Bool.not_eq_false', Bool.not_eq_true, Bool.not_eq_false, beq_iff_eq, bne_iff_ne, beq_eq_false_iff_ne, bne_eq_false_iff_eq, Int.not_lt, Int.not_le, ge_iff_le, gt_iff_lt, not_and, ne_eq, Decidable.not_not] at hc'
  all_goals (try (dsimp only [st, setL, AV.cells, List.set_cons_zero, List.set_cons_succ, List.drop_zero, List.drop_succ_cons, List.take_zero, List.take_succ_cons, Nat.zero_add, Nat.add_zero, Nat.reduceAdd, List.cons_append, List.nil_append, List.eraseIdx_cons_zero, List.eraseIdx_cons_succ]))
  all_goals (refine W ?_)
  · refine LS_mk 0 rfl rfl rfl rfl rfl (by omega) (by omega) (by omega) enI1 rfl fun b2 => ?_
    try (dsimp only [st, setL, AV.cells, List.set_cons_zero, List.set_cons_succ, List.drop_zero, List.drop_succ_cons, List.take_zero, List.take_succ_cons, Nat.zero_add, Nat.add_zero, Nat.reduceAdd, List.cons_append, List.nil_append, List.eraseIdx_cons_zero, List.eraseIdx_cons_succ])
    refine W ?_
    refine LS_is h0 (by omega) rfl rfl ?_
    try (dsimp only [st, setL, AV.cells, List.set_cons_zero, List.set_cons_succ, List.drop_zero, List.drop_succ_cons, List.take_zero, List.take_succ_cons, Nat.zero_add, Nat.add_zero, Nat.reduceAdd, List.cons_append, List.nil_append, List.eraseIdx_cons_zero, List.eraseIdx_cons_succ])
    refine W ?_
    refine LS_ss 1 0 i.toNat rfl (by simp; omega) (by omega) rfl enI1 (by decide) rfl rfl rfl ?_
    try (dsimp only [st, setL, AV.cells, List.set_cons_zero, List.set_cons_succ, List.drop_zero, List.drop_succ_cons, List.take_zero, List.take_succ_cons, Nat.zero_add, Nat.add_zero, Nat.reduceAdd, List.cons_append, List.nil_append, List.eraseIdx_cons_zero, List.eraseIdx_cons_succ])
    refine W ?_
    rw [set_unit]
    refine LS_ltV rfl rfl rfl rfl fun lit hlit slit => ?_
    try (dsimp only [st, setL, AV.cells, List.set_cons_zero, List.set_cons_succ, List.drop_zero, List.drop_succ_cons, List.take_zero, List.take_succ_cons, Nat.zero_add, Nat.add_zero, Nat.reduceAdd, List.cons_append, List.nil_append, List.eraseIdx_cons_zero, List.eraseIdx_cons_succ])
    refine W ?_
    refine LS_ap 2 rfl (fun h' HL => HL.rdI 0 rfl enV1 (by decide)) enV1 (by decide) (by simp) (by simp; omega) (by simp; omega) rfl rfl rfl fun w hw sw => ?_
    try (dsimp only [st, setL, AV.cells, List.set_cons_zero, List.set_cons_succ, List.drop_zero, List.drop_succ_cons, List.take_zero, List.take_succ_cons, Nat.zero_add, Nat.add_zero, Nat.reduceAdd, List.cons_append, List.nil_append, List.eraseIdx_cons_zero, List.eraseIdx_cons_succ])
    refine W ?_
    refine LIL_drop 1 (LIL_push [_] hul ?_)
    refine IH (n - 1) _ _ (by omega) ⟨w, i + 1, us ++ [AV.sl b2 0 p.n.toNat true], exJ rfl, by rw [toNat_succ h0, unit_next (by omega)]; rfl, by rw [toNat_succ h0]; simp [hus], by omega, by omega⟩
  · have hi : i.toNat = p.n.toNat := by omega
    have e0 : (unitsE p.n.toNat).take i.toNat = expsT p 0 := by rw [hi, List.take_of_length_le (by simp [unitsE])]; rfl
    rw [e0]
    clear IH
    rw [e0] at hul
    refine LIL_ind (fun n a L => ∃ (out : AV) (i : Int) (us : List AV), (∃ r : Nat → AV, a = [r 0, r 1, r 2, out, r 4, r 5, r 6, r 7, r 8, r 9, r 10, r 11, r 12, r 13, r 14, r 15, r 16, r 17, r 18, r 19, r 20, r 21, r 22, r 23, r 24, r 25, r 26, r 27, r 28, r 29, r 30, r 31, r 32, r 33, r 34, vs, .i .i64 p.steps.length, .i .i64 i, r 38, r 39, r 40, r 41, r 42, r 43, r 44, r 45, r 46, r 47, r 48, r 49, r 50, r 51, r 52, r 53, r 54, r 55, r 56, r 57, r 58, r 59, r 60, r 61, r 62, r 63, r 64, r 65, r 66, r 67, r 68, r 69, r 70, r 71, r 72, r 73]) ∧ L = .sl out 1 (us.flatMap enV) :: (rowsI us (expsT p i.toNat) ++ []) ∧ us.length = (expsT p i.toNat).length ∧ 0 ≤ i ∧ i + n = p.steps.length)
      p.steps.length ⟨out, 0, us, exJ rfl, rfl, hul, by omega, by omega⟩ ?_
    rintro n a L ⟨out, i, us, ⟨r, rfl⟩, rfl, hul, h0, hn⟩ IH
    obtain ⟨hel, hro⟩ := expsT_ok hf hn0 i.toNat (by omega)
    refine W ?_
    (first | refine LS_gt rfl ?_ ?_ | refine LS_gf rfl ?_ ?_ | refine LI_cond rfl ?_ ?_) <;> intro hc <;> have hc' := hc <;> try simp only [decide_eq_true_eq, decide_eq_false_iff_not, Bool.not_eq_true', Bool.not_eq_false', Bool.not_eq_true, Bool.not_eq_false, beq_iff_eq, bne_iff_ne, beq_eq_false_iff_ne, bne_eq_false_iff_eq, Int.not_lt, Int.not_le, ge_iff_le, gt_iff_lt, not_and, ne_eq, Decidable.not_not] at hc'
    all_goals (try (dsimp only [st, setL, AV.cells, List.set_cons_zero, List.set_cons_succ, List.drop_zero, List.drop_succ_cons, List.take_zero, List.take_succ_cons, Nat.zero_add, Nat.add_zero, Nat.reduceAdd, List.cons_append, List.nil_append, List.eraseIdx_cons_zero, List.eraseIdx_cons_succ]))
    all_goals (refine W ?_)
    · obtain ⟨s, hs', _, _⟩ := drop_at h0 hc'
      have hb := formedS_get hf hs'
      obtain ⟨u, hu⟩ := at_ (l := us) (i := s.1.toNat) (by omega)
      obtain ⟨u', hu'⟩ := at_ (l := us) (i := s.2.toNat) (by omega)
      have hx := getD_get (ll := expsT p i.toNat) (i := s.1.toNat) (by omega)
      have hy := getD_get (ll := expsT p i.toNat) (i := s.2.toNat) (by omega)
      have rx := hro _ (List.mem_of_getElem? hx)
      have ry := hro _ (List.mem_of_getElem? hy)
      have hst := expsT_succ hs'
      generalize hX : (expsT p i.toNat).getD s.1.toNat [] = X at hx rx
      generalize hY : (expsT p i.toNat).getD s.2.toNat [] = Y at hy ry
      refine LS_ix (fun h' HL => hs.le HL.le) enStep2 hs' h0 rfl rfl fun q o hrow => ?_
      try (dsimp only [st, setL, AV.cells, List.set_cons_zero, List.set_cons_succ, List.drop_zero, List.drop_succ_cons, List.take_zero, List.take_succ_cons, Nat.zero_add, Nat.add_zero, Nat.reduceAdd, List.cons_append, List.nil_append, List.eraseIdx_cons_zero, List.eraseIdx_cons_succ])
      refine W ?_
      refine LS_al rfl fun b5 => ?_
      try (dsimp only [st, setL, AV.cells, List.set_cons_zero, List.set_cons_succ, List.drop_zero, List.drop_succ_cons, List.take_zero, List.take_succ_cons, Nat.zero_add, Nat.add_zero, Nat.reduceAdd, List.cons_append, List.nil_append, List.eraseIdx_cons_zero, List.eraseIdx_cons_succ])
      refine W ?_
      refine LS_lt ([] : List Int) rfl rfl (by decide) rfl rfl rfl rfl enI1 rfl rfl fun lit1 hlit1 slit1 => ?_
      try (dsimp only [st, setL, AV.cells, List.set_cons_zero, List.set_cons_succ, List.drop_zero, List.drop_succ_cons, List.take_zero, List.take_succ_cons, Nat.zero_add, Nat.add_zero, Nat.reduceAdd, List.cons_append, List.nil_append, List.eraseIdx_cons_zero, List.eraseIdx_cons_succ])
      refine W ?_
      refine LS_ix (fun h' HL => HL.rdI 2 rfl enV1 (by decide)) enV1 hu (by omega) rfl rfl fun q1 o1 hrow1 => ?_
      try (dsimp only [st, setL, AV.cells, List.set_cons_zero, List.set_cons_succ, List.drop_zero, List.drop_succ_cons, List.take_zero, List.take_succ_cons, Nat.zero_add, Nat.add_zero, Nat.reduceAdd, List.cons_append, List.nil_append, List.eraseIdx_cons_zero, List.eraseIdx_cons_succ])
      refine W ?_
      refine LS_have (fun h' HL => ((HL.rdM (List.mem_cons_of_mem _ (List.mem_cons_of_mem _ (List.mem_cons_of_mem _ (rowsI_in hu hx)))) enI1 (by decide)).len)) fun hlu => ?_
      refine W ?_
      refine LIL_ind (fun n a L => ∃ (row : AV) (k : Int), (∃ r : Nat → AV, a = [r 0, r 1, r 2, out, r 4, r 5, r 6, .p b5 0, row, r 9, r 10, r 11, r 12, r 13, r 14, r 15, r 16, r 17, r 18, r 19, r 20, r 21, r 22, r 23, r 24, r 25, r 26, r 27, r 28, r 29, r 30, r 31, r 32, r 33, r 34, vs, .i .i64 p.steps.length, .i .i64 i, r 38, r 39, r 40, r 41, r 42, r 43, r 44, r 45, u, .i .i64 X.length, .i .i64 k, r 49, r 50, r 51, r 52, r 53, r 54, r 55, r 56, r 57, r 58, r 59, r 60, r 61, r 62, r 63, r 64, r 65, r 66, r 67, r 68, r 69, r 70, r 71, r 72, r 73]) ∧ L = .sl row 1 ((sumR (X.take k.toNat) (Y.take k.toNat)).flatMap enI) :: .pt b5 (enStep s) :: .sl out 1 (us.flatMap enV) :: (rowsI us (expsT p i.toNat) ++ []) ∧ 0 ≤ k ∧ k + n = X.length)
        X.length ⟨lit1, 0, exJ rfl, rfl, by omega, by omega⟩ ?_
      rintro m a L ⟨row, k, ⟨r, rfl⟩, rfl, hk0, hkm⟩ IH2
      refine W ?_
      (first | refine LS_gt rfl ?_ ?_ | refine LS_gf rfl ?_ ?_ | refine LI_cond rfl ?_ ?_) <;> intro hc <;> have hc' := hc <;> try simp only [decide_eq_true_eq, decide_eq_false_iff_not, Bool.not_eq_true', Bool.not_eq_false', Bool.not_eq_true, Bool.not_eq_false, beq_iff_eq, bne_iff_ne, beq_eq_false_iff_ne, bne_eq_false_iff_eq, Int.not_lt, Int.not_le, ge_iff_le, gt_iff_lt, not_and, ne_eq, Decidable.not_not] at hc'
      all_goals (try (dsimp only [st, setL, AV.cells, List.set_cons_zero, List.set_cons_succ, List.drop_zero, List.drop_succ_cons, List.take_zero, List.take_succ_cons, Nat.zero_add, Nat.add_zero, Nat.reduceAdd, List.cons_append, List.nil_append, List.eraseIdx_cons_zero, List.eraseIdx_cons_succ]))
      all_goals (refine W ?_)
      · obtain ⟨xa, hxa, hxm, _⟩ := drop_at (l := X) hk0 hc'
        obtain ⟨ya, hya, hym, _⟩ := drop_at (l := Y) hk0 (by omega)
        have b1 := rx.2 xa hxm
        have b2 := ry.2 ya hym
        have hlen : (sumR (X.take k.toNat) (Y.take k.toNat)).length = k.toNat := by rw [sumR_len (by simp; omega)]; simp; omega
        refine LS_ix (fun h' HL => HL.rdM (List.mem_cons_of_mem _ (List.mem_cons_of_mem _ (List.mem_cons_of_mem _ (rowsI_in hu hx)))) enI1 (by decide)) enI1 hxa hk0 rfl rfl fun q2 o2 hrow2 => ?_
        try (dsimp only [st, setL, AV.cells, List.set_cons_zero, List.set_cons_succ, List.drop_zero, List.drop_succ_cons, List.take_zero, List.take_succ_cons, Nat.zero_add, Nat.add_zero, Nat.reduceAdd, List.cons_append, List.nil_append, List.eraseIdx_cons_zero, List.eraseIdx_cons_succ])
        refine W ?_
        refine LS_ix (fun h' HL => HL.rdI 2 rfl enV1 (by decide)) enV1 hu' (by omega) rfl rfl fun q3 o3 hrow3 => ?_
        try (dsimp only [st, setL, AV.cells, List.set_cons_zero, List.set_cons_succ, List.drop_zero, List.drop_succ_cons, List.take_zero, List.take_succ_cons, Nat.zero_add, Nat.add_zero, Nat.reduceAdd, List.cons_append, List.nil_append, List.eraseIdx_cons_zero, List.eraseIdx_cons_succ])
        refine W ?_
        refine LS_ix (fun h' HL => HL.rdM (List.mem_cons_of_mem _ (List.mem_cons_of_mem _ (List.mem_cons_of_mem _ (rowsI_in hu' hy)))) enI1 (by decide)) enI1 hya hk0 rfl rfl fun q4 o4 hrow4 => ?_
        try (dsimp only [st, setL, AV.cells, List.set_cons_zero, List.set_cons_succ, List.drop_zero, List.drop_succ_cons, List.take_zero, List.take_succ_cons, Nat.zero_add, Nat.add_zero, Nat.reduceAdd, List.cons_append, List.nil_append, List.eraseIdx_cons_zero, List.eraseIdx_cons_succ])
        refine W ?_
        refine LS_lt [if (1000001 : Int) < xa + ya then 1000001 else xa + ya] rfl rfl (by decide) rfl rfl rfl rfl enI1 rfl rfl fun lit2 hlit2 slit2 => ?_
        try (dsimp only [st, setL, AV.cells, List.set_cons_zero, List.set_cons_succ, List.drop_zero, List.drop_succ_cons, List.take_zero, List.take_succ_cons, Nat.zero_add, Nat.add_zero, Nat.reduceAdd, List.cons_append, List.nil_append, List.eraseIdx_cons_zero, List.eraseIdx_cons_succ])
        refine W ?_
        refine LS_ap 1 rfl (fun h' HL => HL.rdI 0 rfl enI1 (by decide)) enI1 (by decide) (by simp) (by simp; omega) (by simp; omega) rfl rfl rfl fun w hw sw => ?_
        try (dsimp only [st, setL, AV.cells, List.set_cons_zero, List.set_cons_succ, List.drop_zero, List.drop_succ_cons, List.take_zero, List.take_succ_cons, Nat.zero_add, Nat.add_zero, Nat.reduceAdd, List.cons_append, List.nil_append, List.eraseIdx_cons_zero, List.eraseIdx_cons_succ])
        refine W ?_
        refine LIL_drop 1 ?_
        refine IH2 (m - 1) _ _ (by omega) ⟨w, k + 1, exJ rfl, ?_, by omega, by omega⟩
        rw [toNat_succ hk0, sumR_take hxa hya, show (if xa + ya < 1000001 then xa + ya else 1000001) = if (1000001 : Int) < xa + ya then 1000001 else xa + ya by split <;> split <;> omega]
        rfl
      · have e : k.toNat = X.length := by omega
        have ey : (Y.take X.length) = Y := List.take_of_length_le (by omega)
        rw [e, List.take_length, ey]
        refine LS_have (fun h' HL => rd_sc (HL.rdI 0 rfl enI1 (by decide))) fun srow => ?_
        refine LS_ltV rfl rfl srow rfl fun lit3 hlit3 slit3 => ?_
        try (dsimp only [st, setL, AV.cells, List.set_cons_zero, List.set_cons_succ, List.drop_zero, List.drop_succ_cons, List.take_zero, List.take_succ_cons, Nat.zero_add, Nat.add_zero, Nat.reduceAdd, List.cons_append, List.nil_append, List.eraseIdx_cons_zero, List.eraseIdx_cons_succ])
        refine W ?_
        refine LS_ap 3 rfl (fun h' HL => HL.rdI 0 rfl enV1 (by decide)) enV1 (by decide) (by simp) (by simp; omega) (by simp; omega) rfl rfl rfl fun w hw sw => ?_
        try (dsimp only [st, setL, AV.cells, List.set_cons_zero, List.set_cons_succ, List.drop_zero, List.drop_succ_cons, List.take_zero, List.take_succ_cons, Nat.zero_add, Nat.add_zero, Nat.reduceAdd, List.cons_append, List.nil_append, List.eraseIdx_cons_zero, List.eraseIdx_cons_succ])
        refine W ?_
        refine LIL_drop 1 (LIL_rot 1 rfl (LIL_drop 1 (LIL_push [_] hul ?_)))
        refine IH (n - 1) _ _ (by omega) ⟨w, i + 1, us ++ [row], exJ rfl, by rw [toNat_succ h0, hst, stepE, hX, hY]; rfl, by rw [toNat_succ h0, hst]; simp [stepE, hul], by omega, by omega⟩
    · have e : i.toNat = p.steps.length := by omega
      rw [e, expsT_end] at hul
      rw [e, expsT_end]
      refine RET fun h' HL => ?_
      try dsimp only [oneA]
      have hO := HL.rdI 0 rfl enV1 (by decide)
      exact ⟨_, ⟨us, hul, hO.len, rd_sc hO, rfl⟩, HL⟩

theorem formed_1_ac (x : Int) (p : PlanM) (b q : Nat) (vs vo : AV) (h : AH) (hq : h.cell q 0 = some (.p b 0)) (hp : PlP h b p vs vo) (hb0 : -10 ≤ p.n) (hb1 : p.n ≤ 1048576) (hl : p.steps.length ≤ 1048576) :
    AC Try.prog 156 [.i .i64 x, .p q 0] h (fun r h' => r = .b (!decide (0 ≤ x ∧ x ≤ p.n + p.steps.length - 1)) ∧ h.le h') := by
  refine e156 _ _ fun wf => ?_
  unfold c156
  refine LI_start wf ?_
  refine W ?_
  refine LS_c0 (fun h' HL wf => many_ac p b vs vo h' (hp.le HL.le) hb0 hb1 hl) rfl rfl ?_
  try (dsimp only [st, setL, AV.cells, List.set_cons_zero, List.set_cons_succ, List.drop_zero, List.drop_succ_cons, List.take_zero, List.take_succ_cons, Nat.zero_add, Nat.add_zero, Nat.reduceAdd, List.cons_append, List.nil_append, List.eraseIdx_cons_zero, List.eraseIdx_cons_succ])
  refine W ?_
  refine LS_c0' (fun h' HL wf => in_ac x 0 _ h') rfl rfl ?_
  try (dsimp only [st, setL, AV.cells, List.set_cons_zero, List.set_cons_succ, List.drop_zero, List.drop_succ_cons, List.take_zero, List.take_succ_cons, Nat.zero_add, Nat.add_zero, Nat.reduceAdd, List.cons_append, List.nil_append, List.eraseIdx_cons_zero, List.eraseIdx_cons_succ])
  refine W ?_
  refine RET fun h' HL => ?_
  try dsimp only [oneA]
  exact ⟨rfl, HL.le⟩

theorem formed_ac (p : PlanM) (b : Nat) (vs vo : AV) (h : AH) (hp : PlP h b p vs vo) (hw : inI p.n) (hl : p.steps.length ≤ 1048576) (hl2 : p.outs.length ≤ 1048576) (hw2 : ∀ s ∈ p.steps, inI s.1 ∧ inI s.2) :
    AC Try.prog 131 [.p b 0] h (fun r h' => r = .b (planForm p && outsOk p) ∧ h.le h') := by
  have c0 := hp.c0
  have c1 := hp.c1
  have c2 := hp.c2
  have hs := hp.steps
  have ho := hp.outs
  refine e131 _ fun wf => ?_
  unfold c131
  refine LI_start wf ?_
  refine W ?_
  refine LS_bx1 rfl rfl fun b1 => ?_
  try (dsimp only [st, setL, AV.cells, List.set_cons_zero, List.set_cons_succ, List.drop_zero, List.drop_succ_cons, List.take_zero, List.take_succ_cons, Nat.zero_add, Nat.add_zero, Nat.reduceAdd, List.cons_append, List.nil_append, List.eraseIdx_cons_zero, List.eraseIdx_cons_succ])
  refine W ?_
  refine LS_c0' (fun h' HL wf => in_ac p.n 1 6 h') rfl rfl ?_
  try (dsimp only [st, setL, AV.cells, List.set_cons_zero, List.set_cons_succ, List.drop_zero, List.drop_succ_cons, List.take_zero, List.take_succ_cons, Nat.zero_add, Nat.add_zero, Nat.reduceAdd, List.cons_append, List.nil_append, List.eraseIdx_cons_zero, List.eraseIdx_cons_succ])
  refine W ?_
  (first | refine LS_gt rfl ?_ ?_ | refine LS_gf rfl ?_ ?_ | refine LI_cond rfl ?_ ?_) <;> intro hc <;> have hc' := hc <;> try simp only [decide_eq_true_eq, decide_eq_false_iff_not, Bool.not_eq_true', Bool.not_eq_false', Bool.not_eq_true, Bool.not_eq_false, beq_iff_eq, bne_iff_ne, beq_eq_false_iff_ne, bne_eq_false_iff_eq, Int.not_lt, Int.not_le, ge_iff_le, gt_iff_lt, not_and, ne_eq, Decidable.not_not] at hc'
  all_goals (try (dsimp only [st, setL, AV.cells, List.set_cons_zero, List.set_cons_succ, List.drop_zero, List.drop_succ_cons, List.take_zero, List.take_succ_cons, Nat.zero_add, Nat.add_zero, Nat.reduceAdd, List.cons_append, List.nil_append, List.eraseIdx_cons_zero, List.eraseIdx_cons_succ]))
  all_goals (refine W ?_)
  · have hn := of_decide_eq_true (nf hc)
    (first | refine LS_gt rfl ?_ ?_ | refine LS_gf rfl ?_ ?_ | refine LI_cond rfl ?_ ?_) <;> intro hc <;> have hc' := hc <;> try simp only [decide_eq_true_eq, decide_eq_false_iff_not, Bool.not_eq_true', Bool.not_eq_false', Bool.not_eq_true, Bool.not_eq_false, beq_iff_eq, bne_iff_ne, beq_eq_false_iff_ne, bne_eq_false_iff_eq, Int.not_lt, Int.not_le, ge_iff_le, gt_iff_lt, not_and, ne_eq, Decidable.not_not] at hc'
    all_goals (try (dsimp only [st, setL, AV.cells, List.set_cons_zero, List.set_cons_succ, List.drop_zero, List.drop_succ_cons, List.take_zero, List.take_succ_cons, Nat.zero_add, Nat.add_zero, Nat.reduceAdd, List.cons_append, List.nil_append, List.eraseIdx_cons_zero, List.eraseIdx_cons_succ]))
    all_goals (refine W ?_)
    · have hl40 := hc'
      (first | refine LS_gt rfl ?_ ?_ | refine LS_gf rfl ?_ ?_ | refine LI_cond rfl ?_ ?_) <;> intro hc <;> have hc' := hc <;> try simp only [decide_eq_true_eq, decide_eq_false_iff_not, Bool.not_eq_true', Bool.not_eq_false', Bool.not_eq_true, Bool.not_eq_false, beq_iff_eq, bne_iff_ne, beq_eq_false_iff_ne, bne_eq_false_iff_eq, Int.not_lt, Int.not_le, ge_iff_le, gt_iff_lt, not_and, ne_eq, Decidable.not_not] at hc'
      all_goals (try (dsimp only [st, setL, AV.cells, List.set_cons_zero, List.set_cons_succ, List.drop_zero, List.drop_succ_cons, List.take_zero, List.take_succ_cons, Nat.zero_add, Nat.add_zero, Nat.reduceAdd, List.cons_append, List.nil_append, List.eraseIdx_cons_zero, List.eraseIdx_cons_succ]))
      all_goals (refine W ?_)
      · rw [show planForm p = false by simp only [planForm]; simp; omega, Bool.false_and]
        refine RET fun h' HL => ?_
        try dsimp only [oneA]
        exact ⟨rfl, HL.le⟩
      · have ho6 := hc'
        have hpf : planForm p = formedS p.n 0 p.steps := by
          simp only [planForm, hn, and_self, decide_true, Bool.true_and]
          rw [decide_eq_true (by omega), decide_eq_true (by omega)]
          simp
        refine LIL_ind (fun n a L => ∃ (i : Int), (∃ r : Nat → AV, a = [r 0, .p b1 0, r 2, r 3, r 4, r 5, r 6, r 7, r 8, r 9, r 10, r 11, r 12, r 13, r 14, r 15, r 16, r 17, r 18, r 19, r 20, r 21, r 22, r 23, r 24, r 25, r 26, r 27, r 28, r 29, vs, .i .i64 p.steps.length, .i .i64 i, r 33, r 34, r 35, r 36, r 37, r 38, r 39, r 40, r 41, r 42, r 43, r 44, r 45, r 46, r 47, r 48, r 49, r 50, r 51, r 52, r 53, r 54, r 55, r 56, r 57, r 58, r 59, r 60, r 61, r 62, r 63, r 64, r 65]) ∧ L = [.pt b1 [.p b 0]] ∧ 0 ≤ i ∧ i + n = p.steps.length ∧ formedS p.n 0 p.steps = formedS p.n i.toNat (p.steps.drop i.toNat))
          p.steps.length ⟨0, exJ rfl, rfl, by omega, by omega, rfl⟩ ?_
        rintro n a L ⟨i, ⟨r, rfl⟩, rfl, h0, hni, hfs⟩ IH
        refine W ?_
        (first | refine LS_gt rfl ?_ ?_ | refine LS_gf rfl ?_ ?_ | refine LI_cond rfl ?_ ?_) <;> intro hc <;> have hc' := hc <;> try simp only [decide_eq_true_eq, decide_eq_false_iff_not, Bool.not_eq_true', Bool.not_eq_false', Bool.not_eq_true, Bool.not_eq_false, beq_iff_eq, bne_iff_ne, beq_eq_false_iff_ne, bne_eq_false_iff_eq, Int.not_lt, Int.not_le, ge_iff_le, gt_iff_lt, not_and, ne_eq, Decidable.not_not] at hc'
        all_goals (try (dsimp only [st, setL, AV.cells, List.set_cons_zero, List.set_cons_succ, List.drop_zero, List.drop_succ_cons, List.take_zero, List.take_succ_cons, Nat.zero_add, Nat.add_zero, Nat.reduceAdd, List.cons_append, List.nil_append, List.eraseIdx_cons_zero, List.eraseIdx_cons_succ]))
        all_goals (refine W ?_)
        · obtain ⟨s, hs', hsm, hd⟩ := drop_at h0 hc'
          have hws := hw2 s hsm
          rw [formedS_drop hd] at hfs
          refine LS_ix (fun h' HL => hs.le HL.le) enStep2 hs' h0 rfl rfl fun q o hrow => ?_
          try (dsimp only [st, setL, AV.cells, List.set_cons_zero, List.set_cons_succ, List.drop_zero, List.drop_succ_cons, List.take_zero, List.take_succ_cons, Nat.zero_add, Nat.add_zero, Nat.reduceAdd, List.cons_append, List.nil_append, List.eraseIdx_cons_zero, List.eraseIdx_cons_succ])
          refine W ?_
          refine LS_al rfl fun b3 => ?_
          try (dsimp only [st, setL, AV.cells, List.set_cons_zero, List.set_cons_succ, List.drop_zero, List.drop_succ_cons, List.take_zero, List.take_succ_cons, Nat.zero_add, Nat.add_zero, Nat.reduceAdd, List.cons_append, List.nil_append, List.eraseIdx_cons_zero, List.eraseIdx_cons_succ])
          refine W ?_
          cases hA : decide (s.1 < 0) with
          | true =>
            refine dz131_0 ?_
            refine WX ?_
            refine W ?_
            rw [hpf, hfs, decide_eq_false (by have := of_decide_eq_true hA; omega), Bool.false_and, Bool.false_and]
            refine RET fun h' HL => ?_
            try dsimp only [oneA]
            exact ⟨rfl, HL.le⟩
          | false =>
            cases hB : decide (s.1 > s.2) with
            | true =>
              refine dz131_0 ?_
              refine WX ?_
              refine W ?_
              rw [hpf, hfs, decide_eq_false (by have := of_decide_eq_true hB; omega), Bool.false_and, Bool.false_and]
              refine RET fun h' HL => ?_
              try dsimp only [oneA]
              exact ⟨rfl, HL.le⟩
            | false =>
              have hA' := of_decide_eq_false hA
              have hB' := of_decide_eq_false hB
              refine dz131_0 ?_
              refine WX ?_
              refine W ?_
              (first | refine LS_gt rfl ?_ ?_ | refine LS_gf rfl ?_ ?_ | refine LI_cond rfl ?_ ?_) <;> intro hc <;> have hc' := hc <;> try simp only [decide_eq_true_eq, decide_eq_false_iff_not, Bool.not_eq_true', Bool.not_eq_false', Bool.not_eq_true, Bool.not_eq_false, beq_iff_eq, bne_iff_ne, beq_eq_false_iff_ne, bne_eq_false_iff_eq, Int.not_lt, Int.not_le, ge_iff_le, gt_iff_lt, not_and, ne_eq, Decidable.not_not] at hc'
              all_goals (try (dsimp only [st, setL, AV.cells, List.set_cons_zero, List.set_cons_succ, List.drop_zero, List.drop_succ_cons, List.take_zero, List.take_succ_cons, Nat.zero_add, Nat.add_zero, Nat.reduceAdd, List.cons_append, List.nil_append, List.eraseIdx_cons_zero, List.eraseIdx_cons_succ]))
              all_goals (refine W ?_)
              · rw [hpf, hfs, decide_eq_false (by omega), Bool.false_and, Bool.false_and]
                refine RET fun h' HL => ?_
                try dsimp only [oneA]
                exact ⟨rfl, HL.le⟩
              · refine LIL_drop 1 ?_
                refine IH (n - 1) _ _ (by omega) ⟨i + 1, exJ rfl, rfl, by omega, by omega, ?_⟩
                rw [hfs, decide_eq_true (by omega), Bool.true_and, toNat_succ h0]
        · have e : i.toNat = p.steps.length := by omega
          rw [e, List.drop_length] at hfs
          have hfs' : formedS p.n 0 p.steps = true := hfs
          clear IH
          refine LS_c0 (fun h' HL wf => ContainsFunc_int_ac p.outs vo _ _ (fun x => !decide (0 ≤ x ∧ x ≤ p.n + p.steps.length - 1)) h' (ho.le HL.le) (by omega) (fun x _ h2 hle => formed_1_ac x p b b1 vs vo h2 (hle.cell (HL.cellP 0 rfl rfl)) (hp.le (HL.le.trans hle)) (by omega) (by omega) (by omega))) rfl rfl ?_
          try (dsimp only [st, setL, AV.cells, List.set_cons_zero, List.set_cons_succ, List.drop_zero, List.drop_succ_cons, List.take_zero, List.take_succ_cons, Nat.zero_add, Nat.add_zero, Nat.reduceAdd, List.cons_append, List.nil_append, List.eraseIdx_cons_zero, List.eraseIdx_cons_succ])
          refine W ?_
          refine RET fun h' HL => ?_
          try dsimp only [oneA]
          refine ⟨?_, HL.le⟩
          rw [hpf, hfs', Bool.true_and, outsOk, any_not, Bool.not_not]
    · rw [show planForm p = false by simp only [planForm]; simp; omega, Bool.false_and]
      refine RET fun h' HL => ?_
      try dsimp only [oneA]
      exact ⟨rfl, HL.le⟩
  · have hn := of_decide_eq_false (nt hc)
    rw [show planForm p = false by simp only [planForm, decide_eq_false hn, Bool.false_and], Bool.false_and]
    refine RET fun h' HL => ?_
    try dsimp only [oneA]
    exact ⟨rfl, HL.le⟩

def maxL (m : Int) : List Int → Int
  | [] => m
  | x :: l => maxL (if x > m then x else m) l

theorem maxL_gt {b : Int} : ∀ (l : List Int) (m : Int), decide (maxL m l > b) = (decide (m > b) || l.any fun x => decide (x > b))
  | [], m => by simp [maxL]
  | x :: l, m => by
    rw [maxL, maxL_gt l]
    rw [List.any_cons, ← Bool.or_assoc]
    congr 1
    split <;> by_cases h1 : m > b <;> by_cases h2 : x > b <;> simp [h1, h2] <;> omega

theorem Max_ac (y : Int) (l : List Int) (v : AV) (h : AH) (hR : Rd h v (y :: l)) (hl : l.length ≤ 4611686018427387904) :
    AC Try.prog 107 [v] h (fun r h' => r = .i .i64 (maxL y l) ∧ h.le h') := by
  refine e107 _ fun wf => ?_
  unfold c107
  refine LI_start wf ?_
  refine W ?_
  first | (refine LS_gtnH rfl (decide_eq_false (by simp; omega)) ?_; intro hg; try (dsimp only [st, setL, AV.cells, List.set_cons_zero, List.set_cons_succ, List.drop_zero, List.drop_succ_cons, List.take_zero, List.take_succ_cons, Nat.zero_add, Nat.add_zero, Nat.reduceAdd, List.cons_append, List.nil_append, List.eraseIdx_cons_zero, List.eraseIdx_cons_succ])) | (refine LS_gfnH rfl (decide_eq_false (by simp; omega)) ?_; intro hg; try (dsimp only [st, setL, AV.cells, List.set_cons_zero, List.set_cons_succ, List.drop_zero, List.drop_succ_cons, List.take_zero, List.take_succ_cons, Nat.zero_add, Nat.add_zero, Nat.reduceAdd, List.cons_append, List.nil_append, List.eraseIdx_cons_zero, List.eraseIdx_cons_succ])) | (refine LI_cond_fH rfl (decide_eq_false (by simp; omega)) ?_; intro hg)
  refine W ?_
  refine LS_ix (n := 0) (y := y) (fun h' HL => hR.le HL.le) enI1 rfl (by decide) rfl rfl fun b o hrow => ?_
  try (dsimp only [st, setL, AV.cells, List.set_cons_zero, List.set_cons_succ, List.drop_zero, List.drop_succ_cons, List.take_zero, List.take_succ_cons, Nat.zero_add, Nat.add_zero, Nat.reduceAdd, List.cons_append, List.nil_append, List.eraseIdx_cons_zero, List.eraseIdx_cons_succ])
  refine W ?_
  refine LIL_ind (fun n a L => ∃ (m i : Int), (∃ r : Nat → AV, a = [v, r 1, r 2, .i .i64 m, .i .i64 i, r 5, r 6, r 7, r 8, r 9, r 10, r 11, r 12, r 13, r 14, r 15, r 16, r 17, r 18, r 19, r 20, r 21, r 22, r 23, r 24]) ∧ L = [] ∧ 1 ≤ i ∧ i + n = l.length + 1 ∧ maxL y l = maxL m (l.drop (i.toNat - 1)))
    l.length ⟨y, 1, exJ rfl, rfl, by omega, by omega, rfl⟩ ?_
  rintro n a L ⟨m, i, ⟨r, rfl⟩, rfl, h0, hn, heq⟩ IH
  refine W ?_
  (first | refine LS_gt rfl ?_ ?_ | refine LS_gf rfl ?_ ?_ | refine LI_cond rfl ?_ ?_) <;> intro hc <;> have hc' := hc <;> try simp only [decide_eq_true_eq, decide_eq_false_iff_not, Bool.not_eq_true', Bool.not_eq_false', Bool.not_eq_true, Bool.not_eq_false, beq_iff_eq, bne_iff_ne, beq_eq_false_iff_ne, bne_eq_false_iff_eq, Int.not_lt, Int.not_le, ge_iff_le, gt_iff_lt, not_and, ne_eq, Decidable.not_not] at hc'
  all_goals (try (dsimp only [st, setL, AV.cells, List.set_cons_zero, List.set_cons_succ, List.drop_zero, List.drop_succ_cons, List.take_zero, List.take_succ_cons, Nat.zero_add, Nat.add_zero, Nat.reduceAdd, List.cons_append, List.nil_append, List.eraseIdx_cons_zero, List.eraseIdx_cons_succ]))
  all_goals (refine W ?_)
  · simp only [List.length_cons] at hc'
    obtain ⟨z, hz, hzm, hd⟩ := drop_at (l := l) (i := i - 1) (by omega) (by omega)
    have e1 : (i - 1).toNat = i.toNat - 1 := by omega
    rw [e1] at hz hd
    rw [hd] at heq
    refine LS_ix (y := z) (fun h' HL => hR.le HL.le) enI1 (by rw [show i.toNat = (i.toNat - 1) + 1 by omega]; exact hz) (by omega) rfl rfl fun b o hrow => ?_
    try (dsimp only [st, setL, AV.cells, List.set_cons_zero, List.set_cons_succ, List.drop_zero, List.drop_succ_cons, List.take_zero, List.take_succ_cons, Nat.zero_add, Nat.add_zero, Nat.reduceAdd, List.cons_append, List.nil_append, List.eraseIdx_cons_zero, List.eraseIdx_cons_succ])
    refine W ?_
    refine IH (n - 1) _ _ (by omega) ⟨_, i + 1, exJ rfl, rfl, by omega, by omega, ?_⟩
    rw [heq, maxL, show (i + 1).toNat - 1 = i.toNat - 1 + 1 by omega]
  · refine RET fun h' HL => ?_
    try dsimp only [oneA]
    refine ⟨?_, HL.le⟩
    simp only [List.length_cons] at hc'
    rw [heq, List.drop_eq_nil_of_le (by omega)]
    rfl

theorem IsPlan_1_ac (x : List Int) (v : AV) (h : AH) (hR : Rd h v x) (h0 : 0 < x.length) (hl : x.length ≤ 4611686018427387904) :
    AC Try.prog 134 [v] h (fun r h' => r = .b (x.any fun y => decide (y > 1000000)) ∧ h.le h') := by
  cases x with
  | nil => simp at h0
  | cons y l =>
    refine e134 _ fun wf => ?_
    unfold c134
    refine LI_start wf ?_
    refine W ?_
    refine LS_c0 (fun h' HL wf => Max_ac y l v h' (hR.le HL.le) (by simp at hl; omega)) rfl rfl ?_
    try (dsimp only [st, setL, AV.cells, List.set_cons_zero, List.set_cons_succ, List.drop_zero, List.drop_succ_cons, List.take_zero, List.take_succ_cons, Nat.zero_add, Nat.add_zero, Nat.reduceAdd, List.cons_append, List.nil_append, List.eraseIdx_cons_zero, List.eraseIdx_cons_succ])
    refine W ?_
    refine RET fun h' HL => ?_
    try dsimp only [oneA]
    exact ⟨by rw [List.any_cons, ← maxL_gt], HL.le⟩

theorem small_any {r : List Int} (hb : row01 r) : (r.all fun x => decide (0 ≤ x ∧ x ≤ 1000000)) = !(r.any fun y => decide (y > 1000000)) := by
  rw [Bool.eq_iff_iff]
  simp only [List.all_eq_true, Bool.not_eq_true', List.any_eq_false, decide_eq_true_eq]
  constructor
  · intro H x hx
    have := H x hx
    omega
  · intro H x hx
    have h1 := H x hx
    have h2 := hb x hx
    omega

theorem all_not {α : Type} : ∀ {l : List α} {f g : α → Bool}, (∀ r ∈ l, f r = !g r) → l.all f = !l.any g
  | [], _, _, _ => rfl
  | x :: l, f, g, h => by
    rw [List.all_cons, List.any_cons, Bool.not_or, h x (by simp), all_not (l := l) (f := f) (g := g) fun r hr => h r (by simp [hr])]

theorem IsPlan_ac (p : PlanM) (v : AV) (h : AH) (hR : PlR h v p) (hw : inI p.n) (hl : p.steps.length ≤ 1048576) (hl2 : p.outs.length ≤ 1048576) (hw2 : ∀ s ∈ p.steps, inI s.1 ∧ inI s.2) :
    AC Try.prog 81 [v] h (fun r h' => r = .b (planOk p) ∧ h.le h') := by
  obtain ⟨vs, vo, rfl, hs, ho⟩ := hR
  refine e81 _ fun wf => ?_
  unfold c81
  refine LI_start wf ?_
  refine W ?_
  refine LS_bxn rfl (sc_cons rfl (sc_cons (rd_sc hs) (sc_cons (rd_sc ho) rfl))) fun b1 => ?_
  try (dsimp only [st, setL, AV.cells, List.set_cons_zero, List.set_cons_succ, List.drop_zero, List.drop_succ_cons, List.take_zero, List.take_succ_cons, Nat.zero_add, Nat.add_zero, Nat.reduceAdd, List.cons_append, List.nil_append, List.eraseIdx_cons_zero, List.eraseIdx_cons_succ])
  refine W ?_
  refine LS_c0 (fun h' HL wf => formed_ac p b1 vs vo h' ⟨HL.rowsP 0 rfl (Nat.le_refl 3) rfl, hs.le HL.le, ho.le HL.le⟩ hw hl hl2 hw2) rfl rfl ?_
  try (dsimp only [st, setL, AV.cells, List.set_cons_zero, List.set_cons_succ, List.drop_zero, List.drop_succ_cons, List.take_zero, List.take_succ_cons, Nat.zero_add, Nat.add_zero, Nat.reduceAdd, List.cons_append, List.nil_append, List.eraseIdx_cons_zero, List.eraseIdx_cons_succ])
  refine W ?_
  (first | refine LS_gt rfl ?_ ?_ | refine LS_gf rfl ?_ ?_ | refine LI_cond rfl ?_ ?_) <;> intro hc <;> have hc' := hc <;> try simp only [decide_eq_true_eq, decide_eq_false_iff_not, Bool.not_eq_true', Bool.not_eq_false', Bool.not_eq_true, Bool.not_eq_false, beq_iff_eq, bne_iff_ne, beq_eq_false_iff_ne, bne_eq_false_iff_eq, Int.not_lt, Int.not_le, ge_iff_le, gt_iff_lt, not_and, ne_eq, Decidable.not_not] at hc'
  all_goals (try (dsimp only [st, setL, AV.cells, List.set_cons_zero, List.set_cons_succ, List.drop_zero, List.drop_succ_cons, List.take_zero, List.take_succ_cons, Nat.zero_add, Nat.add_zero, Nat.reduceAdd, List.cons_append, List.nil_append, List.eraseIdx_cons_zero, List.eraseIdx_cons_succ]))
  all_goals (refine W ?_)
  · simp only [Bool.and_eq_true] at hc
    obtain ⟨hpf, hou⟩ := hc
    obtain ⟨h1, h2, h3, h4, h5⟩ := planForm_out hpf
    obtain ⟨hlen, hel⟩ := expsT_ok h5 h1 p.steps.length (Nat.le_refl _)
    rw [expsT_end] at hlen hel
    refine LS_c1 (fun h' HL wf => exponents_ac p b1 vs vo h' ⟨HL.rowsP 0 rfl (Nat.le_refl 3) rfl, hs.le HL.le, ho.le HL.le⟩ h1 h2 h3 h5) rfl rfl ?_
    try (dsimp only [st, setL, AV.cells, List.set_cons_zero, List.set_cons_succ, List.drop_zero, List.drop_succ_cons, List.take_zero, List.take_succ_cons, Nat.zero_add, Nat.add_zero, Nat.reduceAdd, List.cons_append, List.nil_append, List.eraseIdx_cons_zero, List.eraseIdx_cons_succ])
    refine W ?_
    rintro ex M ⟨us, hus, hrl, hrs, rfl⟩
    try (dsimp only [st, setL, AV.cells, List.set_cons_zero, List.set_cons_succ, List.drop_zero, List.drop_succ_cons, List.take_zero, List.take_succ_cons, Nat.zero_add, Nat.add_zero, Nat.reduceAdd, List.cons_append, List.nil_append, List.eraseIdx_cons_zero, List.eraseIdx_cons_succ])
    unfold ssI
    refine W ?_
    refine LS_c0 (fun h' HL wf => ContainsFuncSS_ac (expsE p) us ex _ _ (fun r => r.any fun y => decide (y > 1000000)) h' (HL.rdI 0 rfl enV1 (by decide)) hus (by omega) (fun i u x hu hx h2 hle => IsPlan_1_ac x u h2 ((HL.rdM (List.mem_cons_of_mem _ (List.mem_append_left _ (rowsI_in hu hx))) enI1 (by decide)).le hle) (by have := (hel x (List.mem_of_getElem? hx)).1; omega) (by have := (hel x (List.mem_of_getElem? hx)).1; omega))) rfl rfl ?_
    try (dsimp only [st, setL, AV.cells, List.set_cons_zero, List.set_cons_succ, List.drop_zero, List.drop_succ_cons, List.take_zero, List.take_succ_cons, Nat.zero_add, Nat.add_zero, Nat.reduceAdd, List.cons_append, List.nil_append, List.eraseIdx_cons_zero, List.eraseIdx_cons_succ])
    refine W ?_
    refine RET fun h' HL => ?_
    try dsimp only [oneA]
    refine ⟨?_, HL.le⟩
    simp only [planOk, hpf, hou, Bool.true_and, Bool.and_true, smallE]
    exact congrArg AV.b (all_not fun r hr => small_any (hel r hr).2).symm
  · refine RET fun h' HL => ?_
    try dsimp only [oneA]
    refine ⟨?_, HL.le⟩
    simp only [planOk]
    cases hpf : planForm p with
    | false => rfl
    | true => rw [hpf, Bool.true_and] at hc; rw [hc]; simp

theorem planOk_out {p : PlanM} (h : planOk p = true) : 1 ≤ p.n ∧ p.n ≤ 6 ∧ p.steps.length ≤ 40 ∧ p.outs.length ≤ 6 ∧ formedS p.n 0 p.steps = true ∧ outsOk p = true := by
  simp only [planOk, Bool.and_eq_true] at h
  obtain ⟨h1, h2, h3, h4, h5⟩ := planForm_out h.1
  exact ⟨h1, h2, h3, h4, h5, h.2.2⟩

/-- Small enough for the laws. -/
structure PSm (p : PlanM) : Prop where
  wf : p.wf
  ls : p.steps.length ≤ 1048576
  lo : p.outs.length ≤ 1048576

theorem good_ac (p : PlanM) (v : AV) (h : AH) (hR : PlR h v p) (hw : PSm p) : AC Try.prog 85 [v] h (fun r h' => r = .b (planOk p) ∧ h.le h') := plGood_ac p v h hR hw.wf.n hw.ls hw.lo hw.wf.steps

theorem isPlan_ac (p : PlanM) (v : AV) (h : AH) (hR : PlR h v p) (hw : PSm p) : AC Try.prog 81 [v] h (fun r h' => r = .b (planOk p) ∧ h.le h') := IsPlan_ac p v h hR hw.wf.n hw.ls hw.lo hw.wf.steps

theorem toPlanX_ac (p : PlanM) (v : AV) (h : AH) (hR : PlR h v p) (hw : PSm p) :
    AC Try.prog 36 [v] h (fun r h' => ∃ M, (∃ vs vo, (r = .agg [.i .i64 p.n, vs, vo] ∧ lenA vs = some p.steps.length ∧ lenA vo = some p.outs.length ∧ vs.sc = true ∧ vo.sc = true) ∧ M = [.sl vs 2 (p.steps.flatMap enStep), .sl vo 1 (p.outs.flatMap enI)]) ∧ Loq h h' M) :=
  (toPlan_ac p v h hR hw.ls hw.lo).mono fun r h' ⟨M, ⟨vs, vo, e1, e2⟩, G⟩ => by
    subst e2
    have g1 := G.rdI 0 rfl enStep2 (by decide)
    have g2 := G.rdI 1 rfl enI1 (by decide)
    exact ⟨_, ⟨vs, vo, ⟨e1, g1.len, g2.len, rd_sc g1, rd_sc g2⟩, rfl⟩, G⟩

theorem plr_of {h0 h : AH} {L : List It} {p : PlanM} {vs vo : AV} (H : Loq h0 h L) (i j : Nat) (h1 : L[i]? = some (.sl vs 2 (p.steps.flatMap enStep))) (h2 : L[j]? = some (.sl vo 1 (p.outs.flatMap enI))) : PlR h (.agg [.i .i64 p.n, vs, vo]) p :=
  ⟨vs, vo, rfl, H.rdI i h1 enStep2 (by decide), H.rdI j h2 enI1 (by decide)⟩

theorem psm_of {p : PlanM} (hw : p.wf) {z : Int} (hz : 0 ≤ z → (p.steps.length + p.outs.length : Int) ≤ 1048576) (h : 0 ≤ z) : PSm p := ⟨hw, by have := hz h; omega, by have := hz h; omega⟩

/-! ### Marks -/
theorem markIntSL_ac (l : List Int) (v : AV) (k : Int) (h0 h : AH) (L : List It) (HL : Loq h0 h (.sl v 1 (l.flatMap enI) :: L)) (hk0 : 0 ≤ k) (hk1 : k + l.length ≤ 4611686018427387904) :
    AC Try.prog 46 [v, .i .i64 k] h (fun r h' => ∃ M, (r = .i .i64 (k + l.length) ∧ M = .sl v 1 ((markL k l.length).flatMap enI) :: L) ∧ Loq h0 h' M) := by
  have hlv := (HL.rdI 0 rfl enI1 (by decide)).len
  refine e46 _ _ fun wf => ?_
  unfold c46
  refine LI_startL HL ?_
  refine W ?_
  refine LIL_ind (fun n a M => ∃ (i : Int), (∃ r : Nat → AV, a = [v, .i .i64 (k + i), r 2, r 3, .i .i64 0, .i .i64 i, r 6, r 7, r 8, r 9, r 10, r 11, r 12, r 13, r 14, r 15, r 16, r 17, r 18]) ∧ M = .sl v 1 ((markL k i.toNat ++ l.drop i.toNat).flatMap enI) :: L ∧ 0 ≤ i ∧ i + n = l.length)
    l.length ⟨0, exJ (by simp only [Int.add_zero]; rfl), by simp [markL], by omega, by omega⟩ ?_
  rintro n a M ⟨i, ⟨r, rfl⟩, rfl, h0', hn⟩ IH
  have hlen : (markL k i.toNat ++ l.drop i.toNat).length = l.length := by simp [markL_len]; omega
  refine W ?_
  (first | refine LS_gt rfl ?_ ?_ | refine LS_gf rfl ?_ ?_ | refine LI_cond rfl ?_ ?_) <;> intro hc <;> have hc' := hc <;> try simp only [decide_eq_true_eq, decide_eq_false_iff_not, Bool.not_eq_true', Bool.not_eq_false', Bool.not_eq_true, Bool.not_eq_false, beq_iff_eq, bne_iff_ne, beq_eq_false_iff_ne, bne_eq_false_iff_eq, Int.not_lt, Int.not_le, ge_iff_le, gt_iff_lt, not_and, ne_eq, Decidable.not_not] at hc'
  all_goals (try (dsimp only [st, setL, AV.cells, List.set_cons_zero, List.set_cons_succ, List.drop_zero, List.drop_succ_cons, List.take_zero, List.take_succ_cons, Nat.zero_add, Nat.add_zero, Nat.reduceAdd, List.cons_append, List.nil_append, List.eraseIdx_cons_zero, List.eraseIdx_cons_succ]))
  all_goals (refine W ?_)
  · obtain ⟨b, o, c, rfl⟩ := sl_of hlv (by omega)
    refine LS_is h0' hc' rfl rfl ?_
    try (dsimp only [st, setL, AV.cells, List.set_cons_zero, List.set_cons_succ, List.drop_zero, List.drop_succ_cons, List.take_zero, List.take_succ_cons, Nat.zero_add, Nat.add_zero, Nat.reduceAdd, List.cons_append, List.nil_append, List.eraseIdx_cons_zero, List.eraseIdx_cons_succ])
    refine W ?_
    refine LS_ss (k + i) 0 i.toNat rfl (by omega) rfl rfl enI1 (by decide) rfl rfl rfl ?_
    try (dsimp only [st, setL, AV.cells, List.set_cons_zero, List.set_cons_succ, List.drop_zero, List.drop_succ_cons, List.take_zero, List.take_succ_cons, Nat.zero_add, Nat.add_zero, Nat.reduceAdd, List.cons_append, List.nil_append, List.eraseIdx_cons_zero, List.eraseIdx_cons_succ])
    refine W ?_
    have hz : k + i = k + (i.toNat : Int) := by omega
    refine IH (n - 1) _ _ (by omega) ⟨i + 1, exJ (by simp only [Int.add_assoc]; rfl), ?_, by omega, by omega⟩
    rw [toNat_succ h0', hz, markL_set (by omega)]
  · have e : i.toNat = l.length := by omega
    rw [e, List.drop_length, List.append_nil]
    refine RET fun h' HL => ?_
    try dsimp only [oneA]
    exact ⟨_, ⟨by rw [show i = (l.length : Int) by omega], rfl⟩, HL⟩

def markP : Int → Nat → List (Int × Int)
  | _, 0 => []
  | k, n + 1 => (k, k + 1) :: markP (k + 2) n

theorem markP_len : ∀ (n : Nat) (k : Int), (markP k n).length = n
  | 0, _ => rfl
  | n + 1, k => by simp [markP, markP_len n]

theorem markP_get : ∀ (n : Nat) (k : Int) (i : Nat), i < n → (markP k n)[i]? = some (k + 2 * i, k + 2 * i + 1)
  | 0, _, i, h => by omega
  | n + 1, k, 0, _ => by simp [markP]
  | n + 1, k, i + 1, h => by
    simp only [markP, List.getElem?_cons_succ]
    rw [markP_get n (k + 2) i (by omega)]
    congr 2 <;> omega

theorem markP_set {l : List (Int × Int)} {k : Int} {i : Nat} {y : Int × Int} (hy : l[i]? = some y) : (((markP k i ++ l.drop i).set i (k + 2 * i, y.2)).set i (k + 2 * i, k + 2 * i + 1)) = markP k (i + 1) ++ l.drop (i + 1) := by
  have h := (List.getElem?_eq_some_iff.1 hy).1
  have hi := markP_len i k
  have hi1 := markP_len (i + 1) k
  rw [List.set_set]
  apply List.ext_getElem?
  intro j
  by_cases e : i = j
  · subst e
    rw [List.getElem?_set_self (by simp [hi]; omega), List.getElem?_append_left (by omega), markP_get (i + 1) k i (by omega)]
  · rw [List.getElem?_set_ne e]
    by_cases hlt : j < i
    · rw [List.getElem?_append_left (by omega), List.getElem?_append_left (by omega), markP_get i k j hlt, markP_get (i + 1) k j (by omega)]
    · rw [List.getElem?_append_right (by omega), List.getElem?_append_right (by omega), hi, hi1, List.getElem?_drop, List.getElem?_drop]
      congr 1
      omega

theorem markStepSL_ac (l : List (Int × Int)) (v : AV) (k : Int) (h0 h : AH) (L : List It) (HL : Loq h0 h (.sl v 2 (l.flatMap enStep) :: L)) (hk0 : 0 ≤ k) (hk1 : k + 2 * l.length ≤ 4611686018427387904) :
    AC Try.prog 71 [v, .i .i64 k] h (fun r h' => ∃ M, (r = .i .i64 (k + 2 * l.length) ∧ M = .sl v 2 ((markP k l.length).flatMap enStep) :: L) ∧ Loq h0 h' M) := by
  have hlv := (HL.rdI 0 rfl enStep2 (by decide)).len
  refine e71 _ _ fun wf => ?_
  unfold c71
  refine LI_startL HL ?_
  refine W ?_
  refine LIL_ind (fun n a M => ∃ (i kk : Int), (∃ r : Nat → AV, a = [v, .i .i64 kk, r 2, r 3, r 4, .i .i64 i, r 6, r 7, r 8, r 9, r 10, r 11, r 12, r 13, r 14, r 15, r 16, r 17, r 18, r 19, r 20, r 21, r 22, r 23, r 24, r 25, r 26]) ∧ M = .sl v 2 ((markP k i.toNat ++ l.drop i.toNat).flatMap enStep) :: L ∧ 0 ≤ i ∧ i + n = l.length ∧ kk = k + 2 * i)
    l.length ⟨0, k, exJ rfl, by simp [markP], by omega, by omega, by omega⟩ ?_
  rintro n a M ⟨i, kk, ⟨r, rfl⟩, rfl, h0', hn, rfl⟩ IH
  have hlen : (markP k i.toNat ++ l.drop i.toNat).length = l.length := by simp [markP_len]; omega
  refine W ?_
  (first | refine LS_gt rfl ?_ ?_ | refine LS_gf rfl ?_ ?_ | refine LI_cond rfl ?_ ?_) <;> intro hc <;> have hc' := hc <;> try simp only [decide_eq_true_eq, decide_eq_false_iff_not, Bool.not_eq_true', Bool.not_eq_false', Bool.not_eq_true, Bool.not_eq_false, beq_iff_eq, bne_iff_ne, beq_eq_false_iff_ne, bne_eq_false_iff_eq, Int.not_lt, Int.not_le, ge_iff_le, gt_iff_lt, not_and, ne_eq, Decidable.not_not] at hc'
  all_goals (try (dsimp only [st, setL, AV.cells, List.set_cons_zero, List.set_cons_succ, List.drop_zero, List.drop_succ_cons, List.take_zero, List.take_succ_cons, Nat.zero_add, Nat.add_zero, Nat.reduceAdd, List.cons_append, List.nil_append, List.eraseIdx_cons_zero, List.eraseIdx_cons_succ]))
  all_goals (refine W ?_)
  · obtain ⟨b, o, c, rfl⟩ := sl_of hlv (by omega)
    obtain ⟨y, hy, _, _⟩ := drop_at (l := l) h0' hc'
    have hy1 : (markP k i.toNat ++ l.drop i.toNat)[i.toNat]? = some y := by rw [List.getElem?_append_right (by rw [markP_len]; omega), markP_len, Nat.sub_self, List.getElem?_drop]; simpa using hy
    have hz : k + 2 * i = k + 2 * (i.toNat : Int) := by omega
    refine LS_is h0' hc' rfl rfl ?_
    try (dsimp only [st, setL, AV.cells, List.set_cons_zero, List.set_cons_succ, List.drop_zero, List.drop_succ_cons, List.take_zero, List.take_succ_cons, Nat.zero_add, Nat.add_zero, Nat.reduceAdd, List.cons_append, List.nil_append, List.eraseIdx_cons_zero, List.eraseIdx_cons_succ])
    refine W ?_
    refine LS_sf (k + 2 * i, y.2) 0 i.toNat 0 rfl hy1 (by decide) rfl rfl enStep2 (by decide) rfl rfl rfl ?_
    try (dsimp only [st, setL, AV.cells, List.set_cons_zero, List.set_cons_succ, List.drop_zero, List.drop_succ_cons, List.take_zero, List.take_succ_cons, Nat.zero_add, Nat.add_zero, Nat.reduceAdd, List.cons_append, List.nil_append, List.eraseIdx_cons_zero, List.eraseIdx_cons_succ])
    refine W ?_
    have hy2 : ((markP k i.toNat ++ l.drop i.toNat).set i.toNat (k + 2 * i, y.2))[i.toNat]? = some (k + 2 * i, y.2) := List.getElem?_set_self (by omega)
    refine LS_is h0' hc' rfl rfl ?_
    try (dsimp only [st, setL, AV.cells, List.set_cons_zero, List.set_cons_succ, List.drop_zero, List.drop_succ_cons, List.take_zero, List.take_succ_cons, Nat.zero_add, Nat.add_zero, Nat.reduceAdd, List.cons_append, List.nil_append, List.eraseIdx_cons_zero, List.eraseIdx_cons_succ])
    refine W ?_
    refine LS_sf (k + 2 * i, k + 2 * i + 1) 0 i.toNat 1 rfl hy2 (by decide) rfl rfl enStep2 (by decide) rfl rfl rfl ?_
    try (dsimp only [st, setL, AV.cells, List.set_cons_zero, List.set_cons_succ, List.drop_zero, List.drop_succ_cons, List.take_zero, List.take_succ_cons, Nat.zero_add, Nat.add_zero, Nat.reduceAdd, List.cons_append, List.nil_append, List.eraseIdx_cons_zero, List.eraseIdx_cons_succ])
    refine W ?_
    refine IH (n - 1) _ _ (by omega) ⟨i + 1, _, exJ rfl, ?_, by omega, by omega, by omega⟩
    rw [toNat_succ h0', hz, markP_set hy]
  · have e : i.toNat = l.length := by omega
    rw [e, List.drop_length, List.append_nil]
    refine RET fun h' HL => ?_
    try dsimp only [oneA]
    exact ⟨_, ⟨by rw [show i = (l.length : Int) by omega], rfl⟩, HL⟩

theorem markPlan_ac (p : PlanM) (vs vo : AV) (k : Int) (h0 h : AH) (L : List It) (HL : Loq h0 h (.sl vs 2 (p.steps.flatMap enStep) :: .sl vo 1 (p.outs.flatMap enI) :: L)) (hk0 : 0 ≤ k) (hk1 : k + 2 * p.steps.length + p.outs.length ≤ 4611686018427387904) :
    AC Try.prog 25 [.agg [.i .i64 p.n, vs, vo], .i .i64 k] h (fun r h' => ∃ M, (r = .i .i64 (k + 2 * p.steps.length + p.outs.length) ∧ M = .sl vs 2 ((markP k p.steps.length).flatMap enStep) :: .sl vo 1 ((markL (k + 2 * p.steps.length) p.outs.length).flatMap enI) :: L) ∧ Loq h0 h' M) := by
  have s1 := rd_sc (HL.rdI 0 rfl enStep2 (by decide))
  have s2 := rd_sc (HL.rdI 1 rfl enI1 (by decide))
  refine e25 _ _ fun wf => ?_
  unfold c25
  refine LI_startL HL ?_
  refine W ?_
  refine LS_bxn rfl (sc_cons rfl (sc_cons s1 (sc_cons s2 rfl))) fun b1 => ?_
  try (dsimp only [st, setL, AV.cells, List.set_cons_zero, List.set_cons_succ, List.drop_zero, List.drop_succ_cons, List.take_zero, List.take_succ_cons, Nat.zero_add, Nat.add_zero, Nat.reduceAdd, List.cons_append, List.nil_append, List.eraseIdx_cons_zero, List.eraseIdx_cons_succ])
  refine W ?_
  refine LS_rot 1 rfl ?_
  refine LS_cm (.refl _) (fun h' HL wf => markStepSL_ac p.steps vs k h0 h' _ HL hk0 (by omega)) rfl rfl ?_
  try (dsimp only [st, setL, AV.cells, List.set_cons_zero, List.set_cons_succ, List.drop_zero, List.drop_succ_cons, List.take_zero, List.take_succ_cons, Nat.zero_add, Nat.add_zero, Nat.reduceAdd, List.cons_append, List.nil_append, List.eraseIdx_cons_zero, List.eraseIdx_cons_succ])
  refine W ?_
  rintro _ _ ⟨rfl, rfl⟩
  try (dsimp only [st, setL, AV.cells, List.set_cons_zero, List.set_cons_succ, List.drop_zero, List.drop_succ_cons, List.take_zero, List.take_succ_cons, Nat.zero_add, Nat.add_zero, Nat.reduceAdd, List.cons_append, List.nil_append, List.eraseIdx_cons_zero, List.eraseIdx_cons_succ])
  refine W ?_
  refine LS_rot 2 rfl ?_
  refine LS_cm (.refl _) (fun h' HL wf => markIntSL_ac p.outs vo (k + 2 * p.steps.length) h0 h' _ HL (by omega) (by omega)) rfl rfl ?_
  try (dsimp only [st, setL, AV.cells, List.set_cons_zero, List.set_cons_succ, List.drop_zero, List.drop_succ_cons, List.take_zero, List.take_succ_cons, Nat.zero_add, Nat.add_zero, Nat.reduceAdd, List.cons_append, List.nil_append, List.eraseIdx_cons_zero, List.eraseIdx_cons_succ])
  refine W ?_
  rintro _ _ ⟨rfl, rfl⟩
  try (dsimp only [st, setL, AV.cells, List.set_cons_zero, List.set_cons_succ, List.drop_zero, List.drop_succ_cons, List.take_zero, List.take_succ_cons, Nat.zero_add, Nat.add_zero, Nat.reduceAdd, List.cons_append, List.nil_append, List.eraseIdx_cons_zero, List.eraseIdx_cons_succ])
  refine W ?_
  refine RET fun h' HL => ?_
  try dsimp only [oneA]
  exact ⟨_, ⟨rfl, rfl⟩, (HL.rot 1 rfl).sub (.cons_cons _ (.cons_cons _ (.cons _ (.refl _))))⟩

theorem loq_ns {h0 h : AH} {L : List It} (H : Loq h0 h L) (k : Nat) : Loq h0 h (.sl .ns k [] :: L) := H.cons (.inl ⟨rfl, rfl⟩) fun y hy => .sl fun b e => by cases e

/-- A list handed back, and whether. -/
def TupI (l : List Int) (ok : Bool) (r : AV) (M : List It) : Prop := ∃ w, r = .tup [w, .b ok] ∧ lenA w = some l.length ∧ w.sc = true ∧ M = [.sl w 1 (l.flatMap enI)]

theorem TupI.of {l : List Int} {ok : Bool} {h0 h : AH} {w : AV} (H : AL.Own h0 1 enI h w l) : ∃ M, TupI l ok (.tup [w, .b ok]) M ∧ Loq h0 h M := ⟨_, ⟨w, rfl, H.rd.len, rd_sc H.rd, rfl⟩, H.loc enI1⟩

theorem TupI.none {h0 h : AH} {L : List It} (H : Loq h0 h L) : ∃ M, TupI [] false (.tup [.ns, .b false]) M ∧ Loq h0 h M := ⟨_, ⟨.ns, rfl, rfl, rfl, rfl⟩, loq_ns (H.sub (List.nil_sublist _)) 1⟩

theorem lit1 {v : AV} (h : v.cells = [v]) (hs : v.cells.all AV.sc = true) : litA 1 0 [(0, v)] = some [v] := by
  unfold litA
  rw [if_pos ⟨rfl, by rw [h]; rfl, hs⟩]
  simp [litA, h]

theorem lit2 {x y : AV} (hx : x.sc = true) (hy : y.sc = true) : litA 1 0 [(0, x), (1, y)] = some ([x, y].flatMap enV) := by
  have e : ∀ v : AV, v.sc = true → v.cells = [v] := by intro v h; cases v <;> first | rfl | cases h
  simp [litA, e x hx, e y hy, hx, hy, enV]

/-! ### Plans that are run -/
theorem Clone_int_ac (l : List Int) (v : AV) (h : AH) (hR : RdG 1 enI h v l) (hl : l.length ≤ 1048576) :
    AC Try.prog 135 [v] h (fun r h' => AL.Own h 1 enI h' r l) := by
  rcases hR.rd with rfl | ⟨b, o, c, rfl, g1, g2⟩
  · have hl0 : l = [] := by have := hR.len; simp [lenA] at this; exact List.length_eq_zero_iff.1 this.symm
    subst hl0
    refine e135 _ fun wf => ?_
    unfold c135
    refine LI_start wf ?_
    refine W ?_
    refine LS_snl rfl rfl true true (.inl ⟨rfl, rfl⟩) (.inl ⟨rfl, rfl⟩) ?_
    try (dsimp only [st, setL, AV.cells, List.set_cons_zero, List.set_cons_succ, List.drop_zero, List.drop_succ_cons, List.take_zero, List.take_succ_cons, Nat.zero_add, Nat.add_zero, Nat.reduceAdd, List.cons_append, List.nil_append, List.eraseIdx_cons_zero, List.eraseIdx_cons_succ])
    refine W ?_
    refine RET fun h' HL => ?_
    try dsimp only [oneA]
    exact AL.Own.nil HL.wf0 HL.le HL.wf _ _
  · refine e135 _ fun wf => ?_
    unfold c135
    refine LI_start wf ?_
    refine W ?_
    refine LS_snl rfl rfl false false (.inr ⟨_, _, _, _, rfl, rfl⟩) (.inl ⟨rfl, rfl⟩) ?_
    try (dsimp only [st, setL, AV.cells, List.set_cons_zero, List.set_cons_succ, List.drop_zero, List.drop_succ_cons, List.take_zero, List.take_succ_cons, Nat.zero_add, Nat.add_zero, Nat.reduceAdd, List.cons_append, List.nil_append, List.eraseIdx_cons_zero, List.eraseIdx_cons_succ])
    refine W ?_
    refine LS_lt ([] : List Int) rfl rfl (by decide) rfl rfl rfl rfl enI1 rfl rfl fun w1 h1 s1 => ?_
    try (dsimp only [st, setL, AV.cells, List.set_cons_zero, List.set_cons_succ, List.drop_zero, List.drop_succ_cons, List.take_zero, List.take_succ_cons, Nat.zero_add, Nat.add_zero, Nat.reduceAdd, List.cons_append, List.nil_append, List.eraseIdx_cons_zero, List.eraseIdx_cons_succ])
    refine W ?_
    refine LS_ap0 0 rfl (fun h' HL => hR.le HL.le) enI1 (by decide) (by simp; omega) (by simp; omega) rfl rfl rfl fun w2 hw2 sw2 => ?_
    try (dsimp only [st, setL, AV.cells, List.set_cons_zero, List.set_cons_succ, List.drop_zero, List.drop_succ_cons, List.take_zero, List.take_succ_cons, Nat.zero_add, Nat.add_zero, Nat.reduceAdd, List.cons_append, List.nil_append, List.eraseIdx_cons_zero, List.eraseIdx_cons_succ])
    refine W ?_
    refine RET fun h' HL => ?_
    try dsimp only [oneA]
    exact HL.ownI 0 rfl enI1 (by decide)

def runS {α : Type} (F : α → α → α) (o : List α) (s : Int × Int) : List α := match o[s.1.toNat]?, o[s.2.toNat]? with
  | some x, some y => o ++ [F x y]
  | _, _ => o

def runM {α : Type} (F : α → α → α) (l : List (Int × Int)) (o : List α) : List α := l.foldl (runS F) o

def pickM {α : Type} (l : List α) (ix : List Int) : List α := ix.filterMap fun i => l[i.toNat]?

theorem pickM_len {α : Type} (l : List α) (ix : List Int) : (pickM l ix).length ≤ ix.length := List.length_filterMap_le _ _

theorem runM_cons {α : Type} (F : α → α → α) (s : Int × Int) (l : List (Int × Int)) (o : List α) : runM F (s :: l) o = runM F l (runS F o s) := rfl

theorem runM_len {α : Type} {F : α → α → α} {n : Int} (hn : 0 ≤ n) : ∀ (l : List (Int × Int)) (i : Nat) (o : List α), formedS n i l = true → (o.length : Int) = n + i → ((runM F l o).length : Int) = n + i + l.length
  | [], i, o, _, ho => by simpa [runM] using ho
  | s :: l, i, o, hf, ho => by
    have hs := formedS_get (i := 0) (s := s) hf rfl
    have h1 : s.1.toNat < o.length := by omega
    have h2 : s.2.toNat < o.length := by omega
    have e : runS F o s = o ++ [F o[s.1.toNat] o[s.2.toNat]] := by simp [runS, h1, h2]
    have hf' : formedS n (i + 1) l = true := by simp only [formedS, Bool.and_eq_true] at hf; exact hf.2
    have := runM_len (F := F) hn l (i + 1) (o ++ [F o[s.1.toNat] o[s.2.toNat]]) hf' (by simp; omega)
    rw [runM_cons, e, this]
    simp
    omega

theorem run_int_ac (F : Int → Int → Int) (P : Int → Prop) (C : AH → Prop) (hC : Kept C) (g : FuncId) (caps : List AV) (p : PlanM) (l : List Int) (b : Nat) (vs vo w : AV) (h : AH) (hCh : C h) (hp : PlP h b p vs vo) (hl : RdG 1 enI h w l) (hk : planOk p = true)
    (hn : (l.length : Int) = p.n) (hPl : ∀ x ∈ l, P x) (hPF : ∀ x y, P x → P y → P (F x y))
    (hF : ∀ h' x y, C h' → P x → P y → AC Try.prog g ([(AV.i .i64) x, (AV.i .i64) y] ++ caps) h' (fun r h'' => r = (AV.i .i64) (F x y) ∧ h'.le h'')) :
    AC Try.prog 150 [.p b 0, w, .f g caps] h (fun r h' => AL.Own h 1 enI h' r (runM F p.steps l)) := by
  have c0 := hp.c0
  have c1 := hp.c1
  have c2 := hp.c2
  have hs := hp.steps
  obtain ⟨h1, h2, h3, h4, hf, h6⟩ := planOk_out hk
  refine e150 _ _ _ fun wf => ?_
  unfold c150
  refine LI_start wf ?_
  refine W ?_
  refine LS_co (fun h' HL wf => Clone_int_ac l w h' (hl.le HL.le) (by omega)) enI1 rfl rfl fun w1 hw1 sw1 => ?_
  try (dsimp only [st, setL, AV.cells, List.set_cons_zero, List.set_cons_succ, List.drop_zero, List.drop_succ_cons, List.take_zero, List.take_succ_cons, Nat.zero_add, Nat.add_zero, Nat.reduceAdd, List.cons_append, List.nil_append, List.eraseIdx_cons_zero, List.eraseIdx_cons_succ])
  refine W ?_
  refine LIL_ind (fun n a L => ∃ (i : Int) (u : AV) (o : List Int), (∃ r : Nat → AV, a = [r 0, r 1, .f g caps, r 3, r 4, r 5, r 6, u, r 8, r 9, r 10, r 11, r 12, r 13, r 14, vs, .i .i64 p.steps.length, .i .i64 i, r 18, r 19, r 20, r 21, r 22, r 23, r 24, r 25, r 26, r 27, r 28, r 29, r 30, r 31, r 32, r 33, r 34, r 35, r 36, r 37]) ∧ L = [.sl u 1 (o.flatMap enI)] ∧ 0 ≤ i ∧ i + n = p.steps.length ∧ runM F p.steps l = runM F (p.steps.drop i.toNat) o ∧ (o.length : Int) = p.n + i ∧ ∀ x ∈ o, P x)
    p.steps.length ⟨0, _, l, exJ rfl, rfl, by omega, by omega, rfl, by omega, hPl⟩ ?_
  rintro n a L ⟨i, u, o, ⟨r, rfl⟩, rfl, h0, hn', heq, hol, hPo⟩ IH
  refine W ?_
  (first | refine LS_gt rfl ?_ ?_ | refine LS_gf rfl ?_ ?_ | refine LI_cond rfl ?_ ?_) <;> intro hc <;> have hc' := hc <;> try simp only [decide_eq_true_eq, decide_eq_false_iff_not, Bool.not_eq_true', Bool.not_eq_false', Bool.not_eq_true, Bool.not_eq_false, beq_iff_eq, bne_iff_ne, beq_eq_false_iff_ne, bne_eq_false_iff_eq, Int.not_lt, Int.not_le, ge_iff_le, gt_iff_lt, not_and, ne_eq, Decidable.not_not] at hc'
  all_goals (try (dsimp only [st, setL, AV.cells, List.set_cons_zero, List.set_cons_succ, List.drop_zero, List.drop_succ_cons, List.take_zero, List.take_succ_cons, Nat.zero_add, Nat.add_zero, Nat.reduceAdd, List.cons_append, List.nil_append, List.eraseIdx_cons_zero, List.eraseIdx_cons_succ]))
  all_goals (refine W ?_)
  · obtain ⟨s, hs', _, hd⟩ := drop_at (l := p.steps) h0 hc'
    have hb := formedS_get hf hs'
    have l1 : s.1.toNat < o.length := by omega
    have l2 : s.2.toNat < o.length := by omega
    have g1 : o[s.1.toNat]? = some o[s.1.toNat] := List.getElem?_eq_getElem l1
    have g2 : o[s.2.toNat]? = some o[s.2.toNat] := List.getElem?_eq_getElem l2
    have p1 : P o[s.1.toNat] := hPo _ (List.getElem_mem l1)
    have p2 : P o[s.2.toNat] := hPo _ (List.getElem_mem l2)
    have e : runS F o s = o ++ [F o[s.1.toNat] o[s.2.toNat]] := by simp [runS, g1, g2]
    rw [hd, runM_cons, e] at heq
    generalize o[s.1.toNat] = x at *
    generalize o[s.2.toNat] = y at *
    refine LS_ix (fun h' HL => hs.le HL.le) enStep2 hs' h0 rfl rfl fun q1 o1 hrow1 => ?_
    try (dsimp only [st, setL, AV.cells, List.set_cons_zero, List.set_cons_succ, List.drop_zero, List.drop_succ_cons, List.take_zero, List.take_succ_cons, Nat.zero_add, Nat.add_zero, Nat.reduceAdd, List.cons_append, List.nil_append, List.eraseIdx_cons_zero, List.eraseIdx_cons_succ])
    refine W ?_
    refine LS_al rfl fun b3 => ?_
    try (dsimp only [st, setL, AV.cells, List.set_cons_zero, List.set_cons_succ, List.drop_zero, List.drop_succ_cons, List.take_zero, List.take_succ_cons, Nat.zero_add, Nat.add_zero, Nat.reduceAdd, List.cons_append, List.nil_append, List.eraseIdx_cons_zero, List.eraseIdx_cons_succ])
    refine W ?_
    refine dz150_0 ?_
    refine WX ?_
    refine W ?_
    refine LX_ix (fun h' HL => HL.rdI 1 rfl enI1 (by decide)) enI1 g1 (by omega) rfl rfl noG fun q2 o2 hrow2 => ?_
    try (dsimp only [st, setL, AV.cells, List.set_cons_zero, List.set_cons_succ, List.drop_zero, List.drop_succ_cons, List.take_zero, List.take_succ_cons, Nat.zero_add, Nat.add_zero, Nat.reduceAdd, List.cons_append, List.nil_append, List.eraseIdx_cons_zero, List.eraseIdx_cons_succ])
    refine WX ?_
    refine W ?_
    refine LX_ix (fun h' HL => HL.rdI 1 rfl enI1 (by decide)) enI1 g2 (by omega) rfl rfl noG fun q3 o3 hrow3 => ?_
    try (dsimp only [st, setL, AV.cells, List.set_cons_zero, List.set_cons_succ, List.drop_zero, List.drop_succ_cons, List.take_zero, List.take_succ_cons, Nat.zero_add, Nat.add_zero, Nat.reduceAdd, List.cons_append, List.nil_append, List.eraseIdx_cons_zero, List.eraseIdx_cons_succ])
    refine WX ?_
    refine W ?_
    refine LX_c0 (fun h' HL wf => hF h'.frz x y (hC.frz _ (hC.le _ _ hCh HL.le)) p1 p2) rfl rfl noG ?_
    try (dsimp only [st, setL, AV.cells, List.set_cons_zero, List.set_cons_succ, List.drop_zero, List.drop_succ_cons, List.take_zero, List.take_succ_cons, Nat.zero_add, Nat.add_zero, Nat.reduceAdd, List.cons_append, List.nil_append, List.eraseIdx_cons_zero, List.eraseIdx_cons_succ])
    refine WX ?_
    refine W ?_
    refine LX_lt [F x y] rfl rfl (by decide) rfl rfl rfl rfl enI1 rfl rfl noG fun w4 hw4 sw4 => ?_
    try (dsimp only [st, setL, AV.cells, List.set_cons_zero, List.set_cons_succ, List.drop_zero, List.drop_succ_cons, List.take_zero, List.take_succ_cons, Nat.zero_add, Nat.add_zero, Nat.reduceAdd, List.cons_append, List.nil_append, List.eraseIdx_cons_zero, List.eraseIdx_cons_succ])
    refine WX ?_
    refine W ?_
    refine LX_f noG (LO_ap 2 rfl (fun h' HL => HL.rdI 0 rfl enI1 (by decide)) enI1 (by decide) (by simp) (by simp; omega) (by simp; omega) rfl rfl rfl fun w5 hw5 sw5 => ?_)
    try (dsimp only [st, setL, AV.cells, List.set_cons_zero, List.set_cons_succ, List.drop_zero, List.drop_succ_cons, List.take_zero, List.take_succ_cons, Nat.zero_add, Nat.add_zero, Nat.reduceAdd, List.cons_append, List.nil_append, List.eraseIdx_cons_zero, List.eraseIdx_cons_succ])
    refine WX ?_
    refine W ?_
    refine LIL_drop 2 ?_
    refine IH (n - 1) _ _ (by omega) ⟨i + 1, _, _, exJ rfl, rfl, by omega, by omega, by rw [toNat_succ h0]; exact heq, by simp; omega, ?_⟩
    intro z hz
    rcases List.mem_append.1 hz with hz | hz
    · exact hPo z hz
    · rw [List.mem_singleton.1 hz]; exact hPF x y p1 p2
  · rw [List.drop_eq_nil_of_le (by omega)] at heq
    refine RET fun h' HL => ?_
    try dsimp only [oneA]
    rw [heq]
    exact HL.ownI 0 rfl enI1 (by decide)

theorem outs_in {α : Type} {F : α → α → α} {p : PlanM} (hk : planOk p = true) {l : List α} (hn : (l.length : Int) = p.n) : ∀ i ∈ p.outs, 0 ≤ i ∧ i < (runM F p.steps l).length := by
  obtain ⟨h1, h2, h3, h4, hf, h6⟩ := planOk_out hk
  intro i hi
  have := of_decide_eq_true (List.all_eq_true.1 h6 i hi)
  have e := runM_len (F := F) (by omega) p.steps 0 l hf (by omega)
  omega

/-! Lengths of words. -/
def capM (x y : Int) : Int := if 2001 < x + y then 2001 else x + y

def capP (x : Int) : Prop := 0 ≤ x ∧ x ≤ 2001

theorem capM_in {x y : Int} (hx : capP x) (hy : capP y) : capP (capM x y) := by
  unfold capM capP at *
  split <;> omega

theorem runM_pre {α : Type} (F : α → α → α) : ∀ (l : List (Int × Int)) (o : List α), ∃ t, runM F l o = o ++ t
  | [], o => ⟨[], by simp [runM]⟩
  | s :: l, o => by
    rw [runM_cons]
    obtain ⟨t, ht⟩ := runM_pre F l (runS F o s)
    unfold runS at ht ⊢
    split at ht
    · exact ⟨_, by rw [ht, List.append_assoc]⟩
    · exact ⟨t, ht⟩

theorem leB (x b : Int) : decide (x ≤ b) = !decide (x > b) := by
  by_cases h : x ≤ b
  · simp [h]
  · simp [h]; omega

def wlIn (p : PlanM) (l : List Int) : Bool := planOk p && (decide ((l.length : Int) = p.n) && l.all (fun x => decide (0 ≤ x ∧ x ≤ 2000)))

def wlOk (p : PlanM) (l : List Int) : Bool := wlIn p l && (runM capM p.steps l).all (fun x => decide (x ≤ 2000))

theorem lengths_2_ac (x y : Int) (h : AH) (hx : capP x) (hy : capP y) : AC Try.prog 151 [.i .i64 x, .i .i64 y] h (fun v h' => v = .i .i64 (capM x y) ∧ h.le h') := by
  have hx1 := hx.1
  have hx2 := hx.2
  have hy1 := hy.1
  have hy2 := hy.2
  refine e151 _ _ fun wf => ?_
  unfold c151
  refine LI_start wf ?_
  refine W ?_
  refine RET fun h' HL => ?_
  try dsimp only [oneA]
  exact ⟨rfl, HL.le⟩

theorem textOk_ac (n : Int) (h : AH) : AC Try.prog 149 [.i .i64 n] h (fun v h' => v = .b (decide (0 ≤ n ∧ n ≤ 2000)) ∧ h.le h') := by
  refine e149 _ fun wf => ?_
  unfold c149
  refine LI_start wf ?_
  refine W ?_
  refine LS_c0' (fun h' HL wf => in_ac n 0 2000 h') rfl rfl ?_
  try (dsimp only [st, setL, AV.cells, List.set_cons_zero, List.set_cons_succ, List.drop_zero, List.drop_succ_cons, List.take_zero, List.take_succ_cons, Nat.zero_add, Nat.add_zero, Nat.reduceAdd, List.cons_append, List.nil_append, List.eraseIdx_cons_zero, List.eraseIdx_cons_succ])
  refine W ?_
  refine RET fun h' HL => ?_
  try dsimp only [oneA]
  exact ⟨rfl, HL.le⟩

theorem lengths_1_ac (n : Int) (h : AH) : AC Try.prog 148 [.i .i64 n] h (fun v h' => v = .b (!decide (0 ≤ n ∧ n ≤ 2000)) ∧ h.le h') := by
  refine e148 _ fun wf => ?_
  unfold c148
  refine LI_start wf ?_
  refine W ?_
  refine LS_c0 (fun h' HL wf => textOk_ac n h') rfl rfl ?_
  try (dsimp only [st, setL, AV.cells, List.set_cons_zero, List.set_cons_succ, List.drop_zero, List.drop_succ_cons, List.take_zero, List.take_succ_cons, Nat.zero_add, Nat.add_zero, Nat.reduceAdd, List.cons_append, List.nil_append, List.eraseIdx_cons_zero, List.eraseIdx_cons_succ])
  refine W ?_
  refine RET fun h' HL => ?_
  try dsimp only [oneA]
  exact ⟨rfl, HL.le⟩

theorem lengths_ac (p : PlanM) (l : List Int) (b : Nat) (vs vo w : AV) (h : AH) (hp : PlP h b p vs vo) (hw : PSm p) (hl : Rd h w l) (hll : l.length ≤ 1048576) :
    AC Try.prog 118 [.p b 0, w] h (fun r h' => ∃ M, (∃ u ll, r = .tup [u, .b (wlOk p l)] ∧ lenA u = some ll.length ∧ u.sc = true ∧ M = [.sl u 1 (ll.flatMap enI)] ∧ (wlOk p l = true → ll = runM capM p.steps l)) ∧ Loq h h' M) := by
  have c0 := hp.c0
  have c1 := hp.c1
  have c2 := hp.c2
  have hs := hp.steps
  have ho := hp.outs
  have hrow := hp.row
  have hlw := hl.len
  refine e118 _ _ fun wf => ?_
  unfold c118
  refine LI_start wf ?_
  refine W ?_
  refine LS_c0 (fun h' HL wf => isPlan_ac p _ h' ⟨vs, vo, rfl, hs.le HL.le, ho.le HL.le⟩ hw) rfl rfl ?_
  try (dsimp only [st, setL, AV.cells, List.set_cons_zero, List.set_cons_succ, List.drop_zero, List.drop_succ_cons, List.take_zero, List.take_succ_cons, Nat.zero_add, Nat.add_zero, Nat.reduceAdd, List.cons_append, List.nil_append, List.eraseIdx_cons_zero, List.eraseIdx_cons_succ])
  refine W ?_
  (first | refine LS_gt rfl ?_ ?_ | refine LS_gf rfl ?_ ?_ | refine LI_cond rfl ?_ ?_) <;> intro hc <;> have hc' := hc <;> try simp only [decide_eq_true_eq, decide_eq_false_iff_not, Bool.not_eq_true', Bool.not_eq_false', Bool.not_eq_true, Bool.not_eq_false, beq_iff_eq, bne_iff_ne, beq_eq_false_iff_ne, bne_eq_false_iff_eq, Int.not_lt, Int.not_le, ge_iff_le, gt_iff_lt, not_and, ne_eq, Decidable.not_not] at hc'
  all_goals (try (dsimp only [st, setL, AV.cells, List.set_cons_zero, List.set_cons_succ, List.drop_zero, List.drop_succ_cons, List.take_zero, List.take_succ_cons, Nat.zero_add, Nat.add_zero, Nat.reduceAdd, List.cons_append, List.nil_append, List.eraseIdx_cons_zero, List.eraseIdx_cons_succ]))
  all_goals (refine W ?_)
  · have hk := nf hc
    obtain ⟨h1, h2, h3, h4, hf, h6⟩ := planOk_out hk
    (first | refine LS_gt rfl ?_ ?_ | refine LS_gf rfl ?_ ?_ | refine LI_cond rfl ?_ ?_) <;> intro hc <;> have hc' := hc <;> try simp only [decide_eq_true_eq, decide_eq_false_iff_not, Bool.not_eq_true', Bool.not_eq_false', Bool.not_eq_true, Bool.not_eq_false, beq_iff_eq, bne_iff_ne, beq_eq_false_iff_ne, bne_eq_false_iff_eq, Int.not_lt, Int.not_le, ge_iff_le, gt_iff_lt, not_and, ne_eq, Decidable.not_not] at hc'
    all_goals (try (dsimp only [st, setL, AV.cells, List.set_cons_zero, List.set_cons_succ, List.drop_zero, List.drop_succ_cons, List.take_zero, List.take_succ_cons, Nat.zero_add, Nat.add_zero, Nat.reduceAdd, List.cons_append, List.nil_append, List.eraseIdx_cons_zero, List.eraseIdx_cons_succ]))
    all_goals (refine W ?_)
    · have hln : decide ((l.length : Int) = p.n) = true := by simpa using hc
      refine LS_c0 (fun h' HL wf => ContainsFunc_int_ac l w _ _ (fun x => !decide (0 ≤ x ∧ x ≤ 2000)) h' (hl.le HL.le) (by omega) (fun x _ h2 _ => lengths_1_ac x h2)) rfl rfl ?_
      try (dsimp only [st, setL, AV.cells, List.set_cons_zero, List.set_cons_succ, List.drop_zero, List.drop_succ_cons, List.take_zero, List.take_succ_cons, Nat.zero_add, Nat.add_zero, Nat.reduceAdd, List.cons_append, List.nil_append, List.eraseIdx_cons_zero, List.eraseIdx_cons_succ])
      refine W ?_
      (first | refine LS_gt rfl ?_ ?_ | refine LS_gf rfl ?_ ?_ | refine LI_cond rfl ?_ ?_) <;> intro hc <;> have hc' := hc <;> try simp only [decide_eq_true_eq, decide_eq_false_iff_not, Bool.not_eq_true', Bool.not_eq_false', Bool.not_eq_true, Bool.not_eq_false, beq_iff_eq, bne_iff_ne, beq_eq_false_iff_ne, bne_eq_false_iff_eq, Int.not_lt, Int.not_le, ge_iff_le, gt_iff_lt, not_and, ne_eq, Decidable.not_not] at hc'
      all_goals (try (dsimp only [st, setL, AV.cells, List.set_cons_zero, List.set_cons_succ, List.drop_zero, List.drop_succ_cons, List.take_zero, List.take_succ_cons, Nat.zero_add, Nat.add_zero, Nat.reduceAdd, List.cons_append, List.nil_append, List.eraseIdx_cons_zero, List.eraseIdx_cons_succ]))
      all_goals (refine W ?_)
      · have hx : wlOk p l = false := by
          rw [wlOk, wlIn]
          have : l.all (fun x => decide (0 ≤ x ∧ x ≤ 2000)) = false := by rw [List.all_eq_not_any_not, hc]; rfl
          rw [this]; simp
        rw [hx]
        refine RET fun h' HL => ?_
        try dsimp only [oneA]
        exact ⟨_, ⟨.ns, [], rfl, rfl, rfl, rfl, by simp⟩, loq_ns (HL.sub (List.nil_sublist _)) 1⟩
      · have hall : l.all (fun x => decide (0 ≤ x ∧ x ≤ 2000)) = true := by rw [List.all_eq_not_any_not, hc]; rfl
        have hall' := hall
        simp only [List.all_eq_true, decide_eq_true_eq] at hall'
        have hln' := of_decide_eq_true hln
        refine LS_co (fun h' HL wf => run_int_ac capM capP (fun _ => True) Kept.tt _ _ p l b vs vo w h' trivial (hp.le HL.le) (hl.le HL.le) hk hln' (fun x hx => ⟨(hall' x hx).1, by have := (hall' x hx).2; omega⟩) (fun x y => capM_in) (fun h2 x y _ hx hy => lengths_2_ac x y h2 hx hy)) enI1 rfl rfl fun w3 hw3 sw3 => ?_
        try (dsimp only [st, setL, AV.cells, List.set_cons_zero, List.set_cons_succ, List.drop_zero, List.drop_succ_cons, List.take_zero, List.take_succ_cons, Nat.zero_add, Nat.add_zero, Nat.reduceAdd, List.cons_append, List.nil_append, List.eraseIdx_cons_zero, List.eraseIdx_cons_succ])
        refine W ?_
        have hrl := runM_len (F := capM) (by omega) p.steps 0 l hf (by omega)
        have hok : wlOk p l = (runM capM p.steps l).all (fun x => decide (x ≤ 2000)) := by rw [wlOk, wlIn, hk, hln, hall]; rfl
        generalize hR : runM capM p.steps l = R at *
        cases R with
        | nil => simp at hrl; omega
        | cons y t =>
          refine LS_c0 (fun h' HL wf => Max_ac y t w3 h' (HL.rdI 0 rfl enI1 (by decide)) (by simp at hrl; omega)) rfl rfl ?_
          try (dsimp only [st, setL, AV.cells, List.set_cons_zero, List.set_cons_succ, List.drop_zero, List.drop_succ_cons, List.take_zero, List.take_succ_cons, Nat.zero_add, Nat.add_zero, Nat.reduceAdd, List.cons_append, List.nil_append, List.eraseIdx_cons_zero, List.eraseIdx_cons_succ])
          refine W ?_
          have e : decide (maxL y t ≤ 2000) = wlOk p l := by
            rw [hok, List.all_cons]
            have h5 := maxL_gt (b := 2000) t y
            rw [leB, h5, Bool.not_or, leB y]
            congr 1
            rw [List.all_eq_not_any_not]
            congr 2
            funext x
            rw [leB, Bool.not_not]
          refine RET fun h' HL => ?_
          try dsimp only [oneA]
          exact ⟨_, ⟨w3, y :: t, by rw [e], hw3, sw3, rfl, fun _ => rfl⟩, HL⟩
    · have hln : decide ((l.length : Int) = p.n) = false := by simpa using hc
      have hx : wlOk p l = false := by rw [wlOk, wlIn, hln]; simp
      rw [hx]
      refine RET fun h' HL => ?_
      try dsimp only [oneA]
      exact ⟨_, ⟨.ns, [], rfl, rfl, rfl, rfl, by simp⟩, loq_ns (HL.sub (List.nil_sublist _)) 1⟩
  · have hx : wlOk p l = false := by rw [wlOk, wlIn, nt hc]; simp
    rw [hx]
    refine RET fun h' HL => ?_
    try dsimp only [oneA]
    exact ⟨_, ⟨.ns, [], rfl, rfl, rfl, rfl, by simp⟩, loq_ns (HL.sub (List.nil_sublist _)) 1⟩

theorem szPlanB_ac (p : PlanM) (v : AV) (k : Int) (h : AH) (hR : PlR h v p) (hk : 0 ≤ k) (hk1 : k ≤ 1048576) (hl : p.steps.length ≤ 9223372036854775807) (hl2 : p.outs.length ≤ 9223372036854775807) :
    AC Try.prog 34 [v, .i .i64 k] h (fun r h' => (∃ z, r = .i .i64 z ∧ z ≤ k ∧ (0 ≤ z → p.steps.length + p.outs.length ≤ k)) ∧ h.le h') := by
  obtain ⟨vs, vo, rfl, hs, ho⟩ := hR
  refine e34 _ _ fun wf => ?_
  unfold c34
  refine LI_start wf ?_
  refine W ?_
  refine LS_bxn rfl (sc_cons rfl (sc_cons (rd_sc hs) (sc_cons (rd_sc ho) rfl))) fun b1 => ?_
  try (dsimp only [st, setL, AV.cells, List.set_cons_zero, List.set_cons_succ, List.drop_zero, List.drop_succ_cons, List.take_zero, List.take_succ_cons, Nat.zero_add, Nat.add_zero, Nat.reduceAdd, List.cons_append, List.nil_append, List.eraseIdx_cons_zero, List.eraseIdx_cons_succ])
  refine W ?_
  refine LS_c0 (fun h' HL wf => szStepS_ac p.steps vs k h' (hs.le HL.le) hk hk1 hl) rfl rfl ?_
  try (dsimp only [st, setL, AV.cells, List.set_cons_zero, List.set_cons_succ, List.drop_zero, List.drop_succ_cons, List.take_zero, List.take_succ_cons, Nat.zero_add, Nat.add_zero, Nat.reduceAdd, List.cons_append, List.nil_append, List.eraseIdx_cons_zero, List.eraseIdx_cons_succ])
  refine W ?_
  (first | refine LS_gt rfl ?_ ?_ | refine LS_gf rfl ?_ ?_ | refine LI_cond rfl ?_ ?_) <;> intro hc <;> have hc' := hc <;> try simp only [decide_eq_true_eq, decide_eq_false_iff_not, Bool.not_eq_true', Bool.not_eq_false', Bool.not_eq_true, Bool.not_eq_false, beq_iff_eq, bne_iff_ne, beq_eq_false_iff_ne, bne_eq_false_iff_eq, Int.not_lt, Int.not_le, ge_iff_le, gt_iff_lt, not_and, ne_eq, Decidable.not_not] at hc'
  all_goals (try (dsimp only [st, setL, AV.cells, List.set_cons_zero, List.set_cons_succ, List.drop_zero, List.drop_succ_cons, List.take_zero, List.take_succ_cons, Nat.zero_add, Nat.add_zero, Nat.reduceAdd, List.cons_append, List.nil_append, List.eraseIdx_cons_zero, List.eraseIdx_cons_succ]))
  all_goals (refine W ?_)
  · refine RET fun h' HL => ?_
    try dsimp only [oneA]
    exact ⟨⟨_, rfl, by first | omega | (split <;> omega), fun e => by omega⟩, HL.le⟩
  · have hn : ¬ (k - (p.steps.length : Int) < 0) := fun e => by rw [if_pos e] at hc'; omega
    rw [if_neg hn]
    refine LS_c0' (fun h' HL wf => szIntS_ac p.outs vo (k - p.steps.length) h' (ho.le HL.le) (by omega) (by omega) hl2) rfl rfl ?_
    try (dsimp only [st, setL, AV.cells, List.set_cons_zero, List.set_cons_succ, List.drop_zero, List.drop_succ_cons, List.take_zero, List.take_succ_cons, Nat.zero_add, Nat.add_zero, Nat.reduceAdd, List.cons_append, List.nil_append, List.eraseIdx_cons_zero, List.eraseIdx_cons_succ])
    refine W ?_
    (first | refine LS_gt rfl ?_ ?_ | refine LS_gf rfl ?_ ?_ | refine LI_cond rfl ?_ ?_) <;> intro hc <;> have hc' := hc <;> try simp only [decide_eq_true_eq, decide_eq_false_iff_not, Bool.not_eq_true', Bool.not_eq_false', Bool.not_eq_true, Bool.not_eq_false, beq_iff_eq, bne_iff_ne, beq_eq_false_iff_ne, bne_eq_false_iff_eq, Int.not_lt, Int.not_le, ge_iff_le, gt_iff_lt, not_and, ne_eq, Decidable.not_not] at hc'
    all_goals (try (dsimp only [st, setL, AV.cells, List.set_cons_zero, List.set_cons_succ, List.drop_zero, List.drop_succ_cons, List.take_zero, List.take_succ_cons, Nat.zero_add, Nat.add_zero, Nat.reduceAdd, List.cons_append, List.nil_append, List.eraseIdx_cons_zero, List.eraseIdx_cons_succ]))
    all_goals (refine W ?_)
    · refine RET fun h' HL => ?_
      try dsimp only [oneA]
      exact ⟨⟨_, rfl, by first | omega | (split <;> omega), fun e => by omega⟩, HL.le⟩
    · have hn : ¬ (k - (p.steps.length : Int) - (p.outs.length : Int) < 0) := fun e => by rw [if_pos e] at hc'; omega
      refine RET fun h' HL => ?_
      try dsimp only [oneA]
      exact ⟨⟨_, rfl, by first | omega | (split <;> omega), fun e => by omega⟩, HL.le⟩

def TupQ (l : List MatM) (ok : Bool) (r : AV) (M : List It) : Prop := ∃ w, r = .tup [w, .b ok] ∧ lenA w = some l.length ∧ w.sc = true ∧ M = [.sl w 4 (l.flatMap enMat)]

theorem TupQ.of {l : List MatM} {ok : Bool} {h0 h : AH} {w : AV} (H : AL.Own h0 4 enMat h w l) : ∃ M, TupQ l ok (.tup [w, .b ok]) M ∧ Loq h0 h M := ⟨_, ⟨w, rfl, H.rd.len, rd_sc H.rd, rfl⟩, H.loc enMat4⟩

theorem TupQ.none {h0 h : AH} {L : List It} (H : Loq h0 h L) : ∃ M, TupQ [] false (.tup [.ns, .b false]) M ∧ Loq h0 h M := ⟨_, ⟨.ns, rfl, rfl, rfl, rfl⟩, loq_ns (H.sub (List.nil_sublist _)) 4⟩

def zeroP : AV := .agg [.i .i64 0, .ns, .ns]

/-- A plan handed back, and whether. -/
def TupP (q : PlanM) (ok : Bool) (r : AV) (M : List It) : Prop := ∃ ws wo, r = .tup [.agg [.i .i64 q.n, ws, wo], .b ok] ∧ lenA ws = some q.steps.length ∧ ws.sc = true ∧ lenA wo = some q.outs.length ∧ wo.sc = true ∧ M = [.sl ws 2 (q.steps.flatMap enStep), .sl wo 1 (q.outs.flatMap enI)]

theorem TupP.none {h0 h : AH} {L : List It} (H : Loq h0 h L) : ∃ M, TupP emptyPlan false (.tup [zeroP, .b false]) M ∧ Loq h0 h M := ⟨_, ⟨.ns, .ns, rfl, rfl, rfl, rfl, rfl, rfl⟩, loq_ns (loq_ns (H.sub (List.nil_sublist _)) 1) 2⟩

def TupPP (q1 q2 : PlanM) (ok : Bool) (r : AV) (M : List It) : Prop := ∃ ws wo xs xo, r = .tup [.agg [.i .i64 q1.n, ws, wo], .agg [.i .i64 q2.n, xs, xo], .b ok] ∧ (lenA ws = some q1.steps.length ∧ ws.sc = true ∧ lenA wo = some q1.outs.length ∧ wo.sc = true) ∧ (lenA xs = some q2.steps.length ∧ xs.sc = true ∧ lenA xo = some q2.outs.length ∧ xo.sc = true) ∧ M = [.sl ws 2 (q1.steps.flatMap enStep), .sl wo 1 (q1.outs.flatMap enI), .sl xs 2 (q2.steps.flatMap enStep), .sl xo 1 (q2.outs.flatMap enI)]

theorem TupPP.none {h0 h : AH} {L : List It} (H : Loq h0 h L) : ∃ M, TupPP emptyPlan emptyPlan false (.tup [zeroP, zeroP, .b false]) M ∧ Loq h0 h M := ⟨_, ⟨.ns, .ns, .ns, .ns, rfl, ⟨rfl, rfl, rfl, rfl⟩, ⟨rfl, rfl, rfl, rfl⟩, rfl⟩, loq_ns (loq_ns (loq_ns (loq_ns (H.sub (List.nil_sublist _)) 1) 2) 1) 2⟩

def chB (lo m : Int) (c : List Int) : Prop := ∀ x ∈ c, lo ≤ x ∧ x ≤ m

theorem chB.mono {lo m lo' m' : Int} {c : List Int} (h : chB lo m c) (h0 : lo' ≤ lo) (h1 : m ≤ m') : chB lo' m' c := fun x hx => by have := h x hx; omega

theorem chB.set {lo m : Int} {c : List Int} {z : Int} (h : chB lo m c) (i : Nat) (h0 : lo ≤ z) (h1 : z ≤ m) : chB lo m (c.set i z) := fun x hx => by
  rcases List.mem_or_eq_of_mem_set hx with hx | rfl
  · exact h x hx
  · exact ⟨h0, h1⟩

structure TS (ws0 : List (Int × List Int)) (s : List Int × List (Int × List Int)) (B : Nat) : Prop where
  nl : s.1.length ≤ B
  nb : ∀ n ∈ s.1, 0 ≤ n ∧ n ≤ 256
  pre : ∃ t, s.2 = ws0 ++ t
  wb : ∀ p ∈ s.2, 1 ≤ p.2.length ∧ p.2.length ≤ 14 ∧ ∀ x ∈ p.2, 0 ≤ x ∧ x ≤ 256

theorem TS.mono {ws0 : List (Int × List Int)} {s : List Int × List (Int × List Int)} {B B' : Nat} (H : TS ws0 s B) (h : B ≤ B') : TS ws0 s B' := ⟨Nat.le_trans H.nl h, H.nb, H.pre, H.wb⟩

/-- Lists of lists handed back, and whether. -/
def TupSS (ll : List (List Int)) (ok : Bool) (r : AV) (M : List It) : Prop := ∃ w us, r = .tup [w, .b ok] ∧ us.length = ll.length ∧ lenA w = some ll.length ∧ w.sc = true ∧ M = ssI w us ll

theorem TupSS.none {h0 h : AH} {L : List It} (H : Loq h0 h L) : ∃ M, TupSS [] false (.tup [.ns, .b false]) M ∧ Loq h0 h M := ⟨_, ⟨.ns, [], rfl, rfl, rfl, rfl, rfl⟩, loq_ns (H.sub (List.nil_sublist _)) 1⟩

/-! ### Words: two strings joined -/
def Try.jn_ren : Go.Shelf.Ren := ⟨fun | 156 => 122 | 165 => 153 | 166 => 154 | 169 => 155 | 240 => 160 | 241 => 161 | 276 => 162 | 277 => 163 | n => n, fun | 31 => 58 | 9 => 9 | 3 => 3 | 4 => 4 | 0 => 0 | 20 => 20 | 72 => 139 | 76 => 143 | 70 => 137 | 37 => 25 | 75 => 142 | 127 => 147 | 164 => 148 | 5 => 5 | 80 => 145 | n => n, fun | n => n⟩
open Go.Shelf in
theorem Try.jn : Go.Proofs.Lays.n156 Try.prog Try.jn_ren := {
  mixed := by kernel_rfl
  f156 := Try.func122.trans (congrArg some (by kernel_rfl))
  f165 := Try.func153.trans (congrArg some (by kernel_rfl))
  f166 := Try.func154.trans (congrArg some (by kernel_rfl))
  f169 := Try.func155.trans (congrArg some (by kernel_rfl))
  f240 := Try.func160.trans (congrArg some (by kernel_rfl))
  f241 := Try.func161.trans (congrArg some (by kernel_rfl))
  f276 := Try.func162.trans (congrArg some (by kernel_rfl))
  f277 := Try.func163.trans (congrArg some (by kernel_rfl))
  t0 := Try.underlying0
  a0 := Try.isAgg0
  z0 := Try.sizeOf0
  v0 := Try.zeroValue0
  t3 := Try.underlying3
  a3 := Try.isAgg3
  z3 := Try.sizeOf3
  v3 := Try.zeroValue3
  t4 := Try.underlying4
  a4 := Try.isAgg4
  z4 := Try.sizeOf4
  v4 := Try.zeroValue4
  t9 := Try.underlying9
  a9 := Try.isAgg9
  z9 := Try.sizeOf9
  v9 := Try.zeroValue9
  t20 := Try.underlying20
  a20 := Try.isAgg20
  z20 := Try.sizeOf20
  v20 := Try.zeroValue20
  t31 := Try.underlying58
  a31 := Try.isAgg58
  z31 := Try.sizeOf58
  v31 := Try.zeroValue58
  t37 := Try.underlying25
  a37 := Try.isAgg25
  z37 := Try.sizeOf25
  v37 := Try.zeroValue25
  t70 := Try.underlying137
  a70 := Try.isAgg137
  z70 := Try.sizeOf137
  v70 := Try.zeroValue137
  t72 := Try.underlying139
  a72 := Try.isAgg139
  z72 := Try.sizeOf139
  v72 := Try.zeroValue139
  t75 := Try.underlying142
  a75 := Try.isAgg142
  z75 := Try.sizeOf142
  v75 := Try.zeroValue142
  t76 := Try.underlying143
  a76 := Try.isAgg143
  z76 := Try.sizeOf143
  v76 := Try.zeroValue143
  t127 := Try.underlying147
  a127 := Try.isAgg147
  z127 := Try.sizeOf147
  v127 := Try.zeroValue147
  t164 := Try.underlying148
  a164 := Try.isAgg148
  z164 := Try.sizeOf148
  v164 := Try.zeroValue148 }
open Go.Shelf Go.Proofs in
theorem jx : Builder.Extra Try.prog Try.jn_ren := {
  sizeBuilder := by kernel_rfl
  liesBuilder := by kernel_rfl
  t5 := Try.underlying5
  a5 := Try.isAgg5
  z5 := Try.sizeOf5
  v5 := Try.zeroValue5
  infoByte := by kernel_rfl
  cellsByte := by kernel_rfl
  sizeByte := by kernel_rfl
  neB5 := by decide }

theorem join2 (x y : ByteArray) : (⟨(Lib.join [x.data.toList, y.data.toList] (ByteArray.mk #[]).data.toList).toArray⟩ : ByteArray) = x ++ y := by
  apply ByteArray.ext
  simp [Lib.join]

theorem join_ac (x y : ByteArray) (v : AV) (h : AH) (hR : RdG 1 enS h v [x, y]) (hl : x.size + y.size ≤ 140737488355328) :
    AC Try.prog 122 [v, .s { data := #[] }] h (fun r h' => r = .s (x ++ y) ∧ h.le h') := by
  refine AC_mk Try.func122 (by kernel_rfl) (by kernel_rfl) fun base w0 ι w cargs hrep hv => ?_
  rcases hR.rd with rfl | ⟨b, o, c, rfl, hg1, hg2⟩
  · have := hR.len; simp [lenA] at this
  obtain ⟨pl, a, cap, hp, hcap, hx, rfl⟩ : ∃ (pl : AL.Place) (a : Addr) (cap : Nat), ι.bl[b]? = some pl ∧ 2 ≤ cap ∧ a = ⟨pl.c, pl.o + o, none⟩ ∧ cargs = #[.slice (some a) 2 cap, .string { data := #[] }] := by
    cases cargs with
    | mk cl =>
      simp only at hv
      cases hv with
      | cons h1 t =>
        cases t with
        | cons h2 t =>
          cases t
          cases h2
          cases h1 with
          | sl _ _ _ _ pl a cap hp hcap hcl hx =>
            refine ⟨pl, a, cap, hp, hcap, ?_, rfl⟩
            rcases hx with hx | ⟨e, _⟩
            · simp at hcap; omega
            · exact e
  subst hx
  obtain ⟨row, e1, e2, e3, e4⟩ := row_get hg1
  have hcell : ∀ (j : Nat) z, [x, y][j]? = some z → w.cell? ⟨pl.c, pl.o + o + j, none⟩ = some (.string z) := by
    intro j z hz
    have hj : j < 2 := (List.getElem?_eq_some_iff.1 hz).1
    have h6 : ([x, y].flatMap enS)[j]? = some (.s z) := by
      rcases j with _ | _ | j
      · simp at hz; subst hz; rfl
      · simp at hz; subst hz; rfl
      · omega
    rw [e3, List.getElem?_take_of_lt (by simpa using hj), List.getElem?_drop] at h6
    obtain ⟨cv, h7, h8⟩ := hrep.cell b pl row hp e1 (o + j) _ h6
    cases h8
    rw [show pl.o + o + j = pl.o + (o + j) by omega]
    exact h7
  have H := Any.strings_Join Try.jn jx pl.c (pl.o + o) cap [x, y] { data := #[] } w hcell (hrep.inb b pl hp) (by simp) (by simpa using hcap) (by simp [Lib.join]; exact hl)
  refine H.mono ?_
  rintro e w' ⟨rfl, hb⟩
  exact ⟨.s (x ++ y), _, ι, h, rfl, .refl ι, hrep.below_keep hb, by rw [List.map_cons, List.map_cons, List.map_nil, join2]; exact .s _, rfl, .refl h⟩

theorem catS_ac (x y : ByteArray) (h : AH) (hl : x.size + y.size ≤ 140737488355328) : AC Try.prog 121 [.s x, .s y] h (fun r h' => r = .s (x ++ y) ∧ h.le h') := by
  refine e121 _ _ fun wf => ?_
  unfold c121
  refine LI_start wf ?_
  refine W ?_
  refine LS_lt [x, y] rfl rfl (by decide) rfl rfl rfl rfl enS1 rfl rfl fun w1 lw sw => ?_
  try (dsimp only [st, setL, AV.cells, List.set_cons_zero, List.set_cons_succ, List.drop_zero, List.drop_succ_cons, List.take_zero, List.take_succ_cons, Nat.zero_add, Nat.add_zero, Nat.reduceAdd, List.cons_append, List.nil_append, List.eraseIdx_cons_zero, List.eraseIdx_cons_succ])
  refine W ?_
  refine LS_c0 (fun h' HL wf => join_ac x y w1 h' (HL.rdI 0 rfl enS1 (by decide)) hl) rfl rfl ?_
  try (dsimp only [st, setL, AV.cells, List.set_cons_zero, List.set_cons_succ, List.drop_zero, List.drop_succ_cons, List.take_zero, List.take_succ_cons, Nat.zero_add, Nat.add_zero, Nat.reduceAdd, List.cons_append, List.nil_append, List.eraseIdx_cons_zero, List.eraseIdx_cons_succ])
  refine W ?_
  refine RET fun h' HL => ?_
  try dsimp only [oneA]
  exact ⟨rfl, HL.le⟩

/-! ### Words: what the laws do with them -/
def mtF : Nat → Int → ByteArray → ByteArray
  | 0, _, o => o
  | n + 1, k, o => if k > 0 then mtF n (k.tdiv 10) (AL.strOf [IntKind.u8.wrap (48 + k.tmod 10)] ++ o) else o

def mtx (k : Int) : ByteArray := if k ≤ 0 then { data := #[109, 48] } else { data := #[109] } ++ mtF k.toNat k { data := #[] }

theorem strOf1 (x : Int) : (AL.strOf [x]).size = 1 := rfl

theorem tmod10 {k : Int} (h : 0 ≤ k) : 0 ≤ k.tmod 10 ∧ k.tmod 10 < 10 ∧ 0 ≤ k.tdiv 10 ∧ (0 < k → k.tdiv 10 < k) := by
  rw [Int.tmod_eq_emod_of_nonneg h, Int.tdiv_eq_ediv_of_nonneg h]
  omega

theorem markText_ac (k : Int) (h : AH) (h1 : k ≤ 4611686018427387904) : AC Try.prog 123 [.i .i64 k] h (fun r h' => r = .s (mtx k) ∧ h.le h') := by
  refine e123 _ fun wf => ?_
  unfold c123
  refine LI_start wf ?_
  refine W ?_
  (first | refine LS_gt rfl ?_ ?_ | refine LS_gf rfl ?_ ?_ | refine LI_cond rfl ?_ ?_) <;> intro hc <;> have hc' := hc <;> try simp only [decide_eq_true_eq, decide_eq_false_iff_not, Bool.not_eq_true', Bool.not_eq_false', Bool.not_eq_true, Bool.not_eq_false, beq_iff_eq, bne_iff_ne, beq_eq_false_iff_ne, bne_eq_false_iff_eq, Int.not_lt, Int.not_le, ge_iff_le, gt_iff_lt, not_and, ne_eq, Decidable.not_not] at hc'
  all_goals (try (dsimp only [st, setL, AV.cells, List.set_cons_zero, List.set_cons_succ, List.drop_zero, List.drop_succ_cons, List.take_zero, List.take_succ_cons, Nat.zero_add, Nat.add_zero, Nat.reduceAdd, List.cons_append, List.nil_append, List.eraseIdx_cons_zero, List.eraseIdx_cons_succ]))
  all_goals (refine W ?_)
  · refine RET fun h' HL => ?_
    try dsimp only [oneA]
    exact ⟨by rw [mtx, if_pos hc'], HL.le⟩
  · refine LIL_ind (fun n a L => ∃ (e : Int) (o : ByteArray), (∃ r : Nat → AV, a = [.i .i64 e, r 1, r 2, .s o, r 4, r 5, r 6, r 7, r 8, r 9, r 10, r 11, r 12, r 13, r 14, r 15, r 16, r 17, r 18, r 19]) ∧ 0 ≤ e ∧ e ≤ n ∧ n ≤ k.toNat ∧ o.size + n ≤ k.toNat ∧ mtF k.toNat k { data := #[] } = mtF n e o)
      k.toNat ⟨k, { data := #[] }, exJ rfl, by omega, by omega, by omega, by show 0 + _ ≤ _; omega, rfl⟩ ?_
    rintro n a L ⟨e, o, ⟨r, rfl⟩, he0, hen, hnk, hos, heq⟩ IH
    have ht := tmod10 he0
    refine W ?_
    (first | refine LS_gt rfl ?_ ?_ | refine LS_gf rfl ?_ ?_ | refine LI_cond rfl ?_ ?_) <;> intro hc <;> have hc' := hc <;> try simp only [decide_eq_true_eq, decide_eq_false_iff_not, Bool.not_eq_true', Bool.not_eq_false', Bool.not_eq_true, Bool.not_eq_false, beq_iff_eq, bne_iff_ne, beq_eq_false_iff_ne, bne_eq_false_iff_eq, Int.not_lt, Int.not_le, ge_iff_le, gt_iff_lt, not_and, ne_eq, Decidable.not_not] at hc'
    all_goals (try (dsimp only [st, setL, AV.cells, List.set_cons_zero, List.set_cons_succ, List.drop_zero, List.drop_succ_cons, List.take_zero, List.take_succ_cons, Nat.zero_add, Nat.add_zero, Nat.reduceAdd, List.cons_append, List.nil_append, List.eraseIdx_cons_zero, List.eraseIdx_cons_succ]))
    all_goals (refine W ?_)
    · obtain ⟨n, rfl⟩ : ∃ q, n = q + 1 := ⟨n - 1, by omega⟩
      rw [mtF, if_pos hc'] at heq
      refine LS_v (OpV_rem rfl rfl (by omega)) ?_
      try (dsimp only [st, setL, AV.cells, List.set_cons_zero, List.set_cons_succ, List.drop_zero, List.drop_succ_cons, List.take_zero, List.take_succ_cons, Nat.zero_add, Nat.add_zero, Nat.reduceAdd, List.cons_append, List.nil_append, List.eraseIdx_cons_zero, List.eraseIdx_cons_succ])
      refine W ?_
      refine LS_lt [IntKind.u8.wrap (48 + e.tmod 10)] rfl rfl (by decide) rfl rfl rfl rfl enU1 rfl rfl fun w1 lw1 sw1 => ?_
      try (dsimp only [st, setL, AV.cells, List.set_cons_zero, List.set_cons_succ, List.drop_zero, List.drop_succ_cons, List.take_zero, List.take_succ_cons, Nat.zero_add, Nat.add_zero, Nat.reduceAdd, List.cons_append, List.nil_append, List.eraseIdx_cons_zero, List.eraseIdx_cons_succ])
      refine W ?_
      refine LS_cbs (fun h' HL => HL.rdI 0 rfl enU1 (by decide)) (by simp) rfl ?_
      try (dsimp only [st, setL, AV.cells, List.set_cons_zero, List.set_cons_succ, List.drop_zero, List.drop_succ_cons, List.take_zero, List.take_succ_cons, Nat.zero_add, Nat.add_zero, Nat.reduceAdd, List.cons_append, List.nil_append, List.eraseIdx_cons_zero, List.eraseIdx_cons_succ])
      refine W ?_
      refine LS_cat rfl rfl (by rw [strOf1]; omega) ?_
      try (dsimp only [st, setL, AV.cells, List.set_cons_zero, List.set_cons_succ, List.drop_zero, List.drop_succ_cons, List.take_zero, List.take_succ_cons, Nat.zero_add, Nat.add_zero, Nat.reduceAdd, List.cons_append, List.nil_append, List.eraseIdx_cons_zero, List.eraseIdx_cons_succ])
      refine W ?_
      refine LS_qu rfl rfl (by omega) ?_
      try (dsimp only [st, setL, AV.cells, List.set_cons_zero, List.set_cons_succ, List.drop_zero, List.drop_succ_cons, List.take_zero, List.take_succ_cons, Nat.zero_add, Nat.add_zero, Nat.reduceAdd, List.cons_append, List.nil_append, List.eraseIdx_cons_zero, List.eraseIdx_cons_succ])
      refine W ?_
      rw [show IntKind.i64.wrap (e.tdiv 10) = e.tdiv 10 from IntWalk.i64_in _ (by omega)]
      refine IH n _ _ (by omega) ⟨_, _, exJ rfl, ht.2.2.1, by have := ht.2.2.2 hc'; omega, by omega, by rw [ByteArray.size_append, strOf1]; omega, heq⟩
    · have hE : mtF n e o = o := by
        cases n with
        | zero => rfl
        | succ n => rw [mtF, if_neg (by omega)]
      rw [hE] at heq
      refine LS_cat rfl rfl (by show 1 + o.size ≤ _; omega) ?_
      try (dsimp only [st, setL, AV.cells, List.set_cons_zero, List.set_cons_succ, List.drop_zero, List.drop_succ_cons, List.take_zero, List.take_succ_cons, Nat.zero_add, Nat.add_zero, Nat.reduceAdd, List.cons_append, List.nil_append, List.eraseIdx_cons_zero, List.eraseIdx_cons_succ])
      refine W ?_
      refine RET fun h' HL => ?_
      try dsimp only [oneA]
      exact ⟨by rw [mtx, if_neg (by omega), heq], HL.le⟩

def totB : List ByteArray → Nat
  | [] => 0
  | s :: l => s.size + totB l

theorem totB_split (l : List ByteArray) (i : Nat) : totB l = totB (l.take i) + totB (l.drop i) := by
  induction l generalizing i with
  | nil => simp [totB]
  | cons s l ih =>
    cases i with
    | zero => simp [totB]
    | succ i => simp only [List.take_succ_cons, List.drop_succ_cons, totB]; rw [ih i]; omega

theorem totB_mem {l : List ByteArray} {s : ByteArray} (h : s ∈ l) : s.size ≤ totB l := by
  induction l with
  | nil => simp at h
  | cons x l ih =>
    simp only [totB]
    rcases List.mem_cons.1 h with rfl | h
    · omega
    · have := ih h; omega

theorem szStringS_ac (l : List ByteArray) (v : AV) (k : Int) (h : AH) (hR : RdG 1 enS h v l) (hk0 : 0 ≤ k) (hk1 : k ≤ 1048576) (hl : l.length ≤ 9223372036854775807) (hs : ∀ s ∈ l, s.size ≤ 9223372036854775807) :
    AC Try.prog 49 [v, .i .i64 k] h (fun r h' => (∃ z, r = .i .i64 z ∧ (0 ≤ z → l.length + totB l ≤ k)) ∧ h.le h') := by
  have hln := hR.len
  refine e49 _ _ fun wf => ?_
  unfold c49
  refine LI_start wf ?_
  refine W ?_
  (first | refine LS_gt rfl ?_ ?_ | refine LS_gf rfl ?_ ?_ | refine LI_cond rfl ?_ ?_) <;> intro hc <;> have hc' := hc <;> try simp only [decide_eq_true_eq, decide_eq_false_iff_not, Bool.not_eq_true', Bool.not_eq_false', Bool.not_eq_true, Bool.not_eq_false, beq_iff_eq, bne_iff_ne, beq_eq_false_iff_ne, bne_eq_false_iff_eq, Int.not_lt, Int.not_le, ge_iff_le, gt_iff_lt, not_and, ne_eq, Decidable.not_not] at hc'
  all_goals (try (dsimp only [st, setL, AV.cells, List.set_cons_zero, List.set_cons_succ, List.drop_zero, List.drop_succ_cons, List.take_zero, List.take_succ_cons, Nat.zero_add, Nat.add_zero, Nat.reduceAdd, List.cons_append, List.nil_append, List.eraseIdx_cons_zero, List.eraseIdx_cons_succ]))
  all_goals (refine W ?_)
  · refine RET fun h' HL => ?_
    try dsimp only [oneA]
    exact ⟨⟨-1, rfl, fun e => by omega⟩, HL.le⟩
  · refine LIL_ind (fun n a L => ∃ (i kk : Int), (∃ r : Nat → AV, a = [v, .i .i64 kk, r 2, r 3, r 4, .i .i64 i, r 6, r 7, r 8, r 9, r 10, r 11, r 12, r 13, r 14, r 15, r 16, r 17, r 18, r 19, r 20, r 21, r 22, r 23, r 24, r 25, r 26, r 27]) ∧ L = [] ∧ 0 ≤ kk ∧ kk = k - l.length - totB (l.take i.toNat) ∧ 0 ≤ i ∧ i + n = l.length)
      l.length ⟨0, _, exJ rfl, rfl, hc', by simp [totB], by omega, by omega⟩ ?_
    rintro n a L ⟨i, kk, ⟨r, rfl⟩, rfl, hkk0, hkk, h0', hn⟩ IH
    have hsp := totB_split l i.toNat
    refine W ?_
    (first | refine LS_gt rfl ?_ ?_ | refine LS_gf rfl ?_ ?_ | refine LI_cond rfl ?_ ?_) <;> intro hc <;> have hc' := hc <;> try simp only [decide_eq_true_eq, decide_eq_false_iff_not, Bool.not_eq_true', Bool.not_eq_false', Bool.not_eq_true, Bool.not_eq_false, beq_iff_eq, bne_iff_ne, beq_eq_false_iff_ne, bne_eq_false_iff_eq, Int.not_lt, Int.not_le, ge_iff_le, gt_iff_lt, not_and, ne_eq, Decidable.not_not] at hc'
    all_goals (try (dsimp only [st, setL, AV.cells, List.set_cons_zero, List.set_cons_succ, List.drop_zero, List.drop_succ_cons, List.take_zero, List.take_succ_cons, Nat.zero_add, Nat.add_zero, Nat.reduceAdd, List.cons_append, List.nil_append, List.eraseIdx_cons_zero, List.eraseIdx_cons_succ]))
    all_goals (refine W ?_)
    · obtain ⟨s, hs', hm, hd⟩ := drop_at (l := l) h0' hc'
      have hdt : totB (l.drop i.toNat) = s.size + totB (l.drop (i.toNat + 1)) := by rw [hd, totB]
      have hsp2 := totB_split l (i.toNat + 1)
      have hsb := hs s hm
      refine LS_ix (fun h' HL => hR.le HL.le) enS1 hs' h0' rfl rfl fun q1 o1 hrow1 => ?_
      try (dsimp only [st, setL, AV.cells, List.set_cons_zero, List.set_cons_succ, List.drop_zero, List.drop_succ_cons, List.take_zero, List.take_succ_cons, Nat.zero_add, Nat.add_zero, Nat.reduceAdd, List.cons_append, List.nil_append, List.eraseIdx_cons_zero, List.eraseIdx_cons_succ])
      refine W ?_
      (first | refine LS_gt rfl ?_ ?_ | refine LS_gf rfl ?_ ?_ | refine LI_cond rfl ?_ ?_) <;> intro hc <;> have hc' := hc <;> try simp only [decide_eq_true_eq, decide_eq_false_iff_not, Bool.not_eq_true', Bool.not_eq_false', Bool.not_eq_true, Bool.not_eq_false, beq_iff_eq, bne_iff_ne, beq_eq_false_iff_ne, bne_eq_false_iff_eq, Int.not_lt, Int.not_le, ge_iff_le, gt_iff_lt, not_and, ne_eq, Decidable.not_not] at hc'
      all_goals (try (dsimp only [st, setL, AV.cells, List.set_cons_zero, List.set_cons_succ, List.drop_zero, List.drop_succ_cons, List.take_zero, List.take_succ_cons, Nat.zero_add, Nat.add_zero, Nat.reduceAdd, List.cons_append, List.nil_append, List.eraseIdx_cons_zero, List.eraseIdx_cons_succ]))
      all_goals (refine W ?_)
      · refine RET fun h' HL => ?_
        try dsimp only [oneA]
        exact ⟨⟨-1, rfl, fun e => by omega⟩, HL.le⟩
      · refine IH (n - 1) _ _ (by omega) ⟨i + 1, _, exJ rfl, rfl, hc', by rw [toNat_succ h0']; omega, by omega, by omega⟩
    · have e : i.toNat = l.length := by omega
      rw [e, List.take_length] at hkk
      refine RET fun h' HL => ?_
      try dsimp only [oneA]
      exact ⟨⟨_, rfl, fun _ => by omega⟩, HL.le⟩

theorem eqStringS_same (l : List ByteArray) (v v' : AV) (h : AH) (hR : RdG 1 enS h v l) (hR' : RdG 1 enS h v' l) (hl : l.length ≤ 4611686018427387904) :
    AC Try.prog 53 [v, v'] h (fun r h' => r = .b true ∧ h.le h') := by
  have hln := hR.len
  have hln' := hR'.len
  refine e53 _ _ fun wf => ?_
  unfold c53
  refine LI_start wf ?_
  refine W ?_
  first | (refine LS_gtnH rfl (by simp) ?_; intro hg; try (dsimp only [st, setL, AV.cells, List.set_cons_zero, List.set_cons_succ, List.drop_zero, List.drop_succ_cons, List.take_zero, List.take_succ_cons, Nat.zero_add, Nat.add_zero, Nat.reduceAdd, List.cons_append, List.nil_append, List.eraseIdx_cons_zero, List.eraseIdx_cons_succ])) | (refine LS_gfnH rfl (by simp) ?_; intro hg; try (dsimp only [st, setL, AV.cells, List.set_cons_zero, List.set_cons_succ, List.drop_zero, List.drop_succ_cons, List.take_zero, List.take_succ_cons, Nat.zero_add, Nat.add_zero, Nat.reduceAdd, List.cons_append, List.nil_append, List.eraseIdx_cons_zero, List.eraseIdx_cons_succ])) | (refine LI_cond_fH rfl (by simp) ?_; intro hg)
  refine W ?_
  refine LIL_ind (fun n a L => ∃ (i : Int), (∃ r : Nat → AV, a = [v, v', r 2, r 3, r 4, .i .i64 i, r 6, r 7, r 8, r 9, r 10, r 11, r 12, r 13, r 14, r 15, r 16, r 17, r 18, r 19, r 20, r 21, r 22, r 23, r 24, r 25]) ∧ L = [] ∧ 0 ≤ i ∧ i + n = l.length)
    l.length ⟨0, exJ rfl, rfl, by omega, by omega⟩ ?_
  rintro n a L ⟨i, ⟨r, rfl⟩, rfl, h0', hn⟩ IH
  refine W ?_
  (first | refine LS_gt rfl ?_ ?_ | refine LS_gf rfl ?_ ?_ | refine LI_cond rfl ?_ ?_) <;> intro hc <;> have hc' := hc <;> try simp only [decide_eq_true_eq, decide_eq_false_iff_not, Bool.not_eq_true', Bool.not_eq_false', Bool.not_eq_true, Bool.not_eq_false, beq_iff_eq, bne_iff_ne, beq_eq_false_iff_ne, bne_eq_false_iff_eq, Int.not_lt, Int.not_le, ge_iff_le, gt_iff_lt, not_and, ne_eq, Decidable.not_not] at hc'
  all_goals (try (dsimp only [st, setL, AV.cells, List.set_cons_zero, List.set_cons_succ, List.drop_zero, List.drop_succ_cons, List.take_zero, List.take_succ_cons, Nat.zero_add, Nat.add_zero, Nat.reduceAdd, List.cons_append, List.nil_append, List.eraseIdx_cons_zero, List.eraseIdx_cons_succ]))
  all_goals (refine W ?_)
  · obtain ⟨s, hs', hm, hd⟩ := drop_at (l := l) h0' hc'
    refine dz53_0 ?_
    refine WX ?_
    refine W ?_
    refine LX_ix (fun h' HL => hR.le HL.le) enS1 hs' h0' rfl rfl noG fun q1 o1 hrow1 => ?_
    try (dsimp only [st, setL, AV.cells, List.set_cons_zero, List.set_cons_succ, List.drop_zero, List.drop_succ_cons, List.take_zero, List.take_succ_cons, Nat.zero_add, Nat.add_zero, Nat.reduceAdd, List.cons_append, List.nil_append, List.eraseIdx_cons_zero, List.eraseIdx_cons_succ])
    refine WX ?_
    refine W ?_
    refine LX_ix (fun h' HL => hR'.le HL.le) enS1 hs' h0' rfl rfl noG fun q2 o2 hrow2 => ?_
    try (dsimp only [st, setL, AV.cells, List.set_cons_zero, List.set_cons_succ, List.drop_zero, List.drop_succ_cons, List.take_zero, List.take_succ_cons, Nat.zero_add, Nat.add_zero, Nat.reduceAdd, List.cons_append, List.nil_append, List.eraseIdx_cons_zero, List.eraseIdx_cons_succ])
    refine WX ?_
    refine W ?_
    refine LX_v noG (AL.OpV_sne rfl rfl) ?_
    try (dsimp only [st, setL, AV.cells, List.set_cons_zero, List.set_cons_succ, List.drop_zero, List.drop_succ_cons, List.take_zero, List.take_succ_cons, Nat.zero_add, Nat.add_zero, Nat.reduceAdd, List.cons_append, List.nil_append, List.eraseIdx_cons_zero, List.eraseIdx_cons_succ])
    refine WX ?_
    refine W ?_
    first | (refine LS_gtnH rfl (by simp) ?_; intro hg; try (dsimp only [st, setL, AV.cells, List.set_cons_zero, List.set_cons_succ, List.drop_zero, List.drop_succ_cons, List.take_zero, List.take_succ_cons, Nat.zero_add, Nat.add_zero, Nat.reduceAdd, List.cons_append, List.nil_append, List.eraseIdx_cons_zero, List.eraseIdx_cons_succ])) | (refine LS_gfnH rfl (by simp) ?_; intro hg; try (dsimp only [st, setL, AV.cells, List.set_cons_zero, List.set_cons_succ, List.drop_zero, List.drop_succ_cons, List.take_zero, List.take_succ_cons, Nat.zero_add, Nat.add_zero, Nat.reduceAdd, List.cons_append, List.nil_append, List.eraseIdx_cons_zero, List.eraseIdx_cons_succ])) | (refine LI_cond_fH rfl (by simp) ?_; intro hg)
    refine W ?_
    refine IH (n - 1) _ _ (by omega) ⟨i + 1, exJ rfl, rfl, by omega, by omega⟩
  · refine RET fun h' HL => ?_
    try dsimp only [oneA]
    exact ⟨rfl, HL.le⟩

def markB : Int → Nat → List ByteArray
  | _, 0 => []
  | k, n + 1 => mtx k :: markB (k + 1) n

theorem markB_len : ∀ (n : Nat) (k : Int), (markB k n).length = n
  | 0, _ => rfl
  | n + 1, k => by simp [markB, markB_len n]

theorem markB_get : ∀ (n : Nat) (k : Int) (i : Nat), i < n → (markB k n)[i]? = some (mtx (k + i))
  | 0, _, i, h => by omega
  | n + 1, k, 0, _ => by simp [markB]
  | n + 1, k, i + 1, h => by
    simp only [markB, List.getElem?_cons_succ]
    rw [markB_get n (k + 1) i (by omega)]
    congr 2
    omega

theorem markB_set {l : List ByteArray} {k : Int} {i : Nat} (h : i < l.length) : (markB k i ++ l.drop i).set i (mtx (k + i)) = markB k (i + 1) ++ l.drop (i + 1) := by
  apply List.ext_getElem?
  intro j
  have hi := markB_len i k
  have hi1 := markB_len (i + 1) k
  by_cases e : i = j
  · subst e
    rw [List.getElem?_set_self (by simp [hi]; omega), List.getElem?_append_left (by omega), markB_get (i + 1) k i (by omega)]
  · rw [List.getElem?_set_ne e]
    by_cases hlt : j < i
    · rw [List.getElem?_append_left (by omega), List.getElem?_append_left (by omega), markB_get i k j hlt, markB_get (i + 1) k j (by omega)]
    · rw [List.getElem?_append_right (by omega), List.getElem?_append_right (by omega), hi, hi1, List.getElem?_drop, List.getElem?_drop]
      congr 1
      omega

theorem markStringSL_ac (l : List ByteArray) (v : AV) (k : Int) (h0 h : AH) (L : List It) (HL : Loq h0 h (.sl v 1 (l.flatMap enS) :: L)) (hk0 : 0 ≤ k) (hk1 : k + l.length ≤ 4611686018427387904) :
    AC Try.prog 54 [v, .i .i64 k] h (fun r h' => ∃ M, (r = .i .i64 (k + l.length) ∧ M = .sl v 1 ((markB k l.length).flatMap enS) :: L) ∧ Loq h0 h' M) := by
  have hlv := (HL.rdI 0 rfl enS1 (by decide)).len
  refine e54 _ _ fun wf => ?_
  unfold c54
  refine LI_startL HL ?_
  refine W ?_
  refine LIL_ind (fun n a M => ∃ (i : Int), (∃ r : Nat → AV, a = [v, .i .i64 (k + i), r 2, r 3, r 4, .i .i64 i, r 6, r 7, r 8, r 9, r 10, r 11, r 12, r 13, r 14, r 15, r 16, r 17, r 18, r 19]) ∧ M = .sl v 1 ((markB k i.toNat ++ l.drop i.toNat).flatMap enS) :: L ∧ 0 ≤ i ∧ i + n = l.length)
    l.length ⟨0, exJ (by simp only [Int.add_zero]; rfl), by simp [markB], by omega, by omega⟩ ?_
  rintro n a M ⟨i, ⟨r, rfl⟩, rfl, h0', hn⟩ IH
  have hlen : (markB k i.toNat ++ l.drop i.toNat).length = l.length := by simp [markB_len]; omega
  refine W ?_
  (first | refine LS_gt rfl ?_ ?_ | refine LS_gf rfl ?_ ?_ | refine LI_cond rfl ?_ ?_) <;> intro hc <;> have hc' := hc <;> try simp only [decide_eq_true_eq, decide_eq_false_iff_not, Bool.not_eq_true', Bool.not_eq_false', Bool.not_eq_true, Bool.not_eq_false, beq_iff_eq, bne_iff_ne, beq_eq_false_iff_ne, bne_eq_false_iff_eq, Int.not_lt, Int.not_le, ge_iff_le, gt_iff_lt, not_and, ne_eq, Decidable.not_not] at hc'
  all_goals (try (dsimp only [st, setL, AV.cells, List.set_cons_zero, List.set_cons_succ, List.drop_zero, List.drop_succ_cons, List.take_zero, List.take_succ_cons, Nat.zero_add, Nat.add_zero, Nat.reduceAdd, List.cons_append, List.nil_append, List.eraseIdx_cons_zero, List.eraseIdx_cons_succ]))
  all_goals (refine W ?_)
  · obtain ⟨b, o, c, rfl⟩ := sl_of hlv (by omega)
    refine LS_c0 (fun h' HL wf => markText_ac (k + i) h' (by omega)) rfl rfl ?_
    try (dsimp only [st, setL, AV.cells, List.set_cons_zero, List.set_cons_succ, List.drop_zero, List.drop_succ_cons, List.take_zero, List.take_succ_cons, Nat.zero_add, Nat.add_zero, Nat.reduceAdd, List.cons_append, List.nil_append, List.eraseIdx_cons_zero, List.eraseIdx_cons_succ])
    refine W ?_
    refine LS_is h0' hc' rfl rfl ?_
    try (dsimp only [st, setL, AV.cells, List.set_cons_zero, List.set_cons_succ, List.drop_zero, List.drop_succ_cons, List.take_zero, List.take_succ_cons, Nat.zero_add, Nat.add_zero, Nat.reduceAdd, List.cons_append, List.nil_append, List.eraseIdx_cons_zero, List.eraseIdx_cons_succ])
    refine W ?_
    refine LS_ss (mtx (k + i)) 0 i.toNat rfl (by omega) rfl rfl enS1 (by decide) rfl rfl rfl ?_
    try (dsimp only [st, setL, AV.cells, List.set_cons_zero, List.set_cons_succ, List.drop_zero, List.drop_succ_cons, List.take_zero, List.take_succ_cons, Nat.zero_add, Nat.add_zero, Nat.reduceAdd, List.cons_append, List.nil_append, List.eraseIdx_cons_zero, List.eraseIdx_cons_succ])
    refine W ?_
    have hz : k + i = k + (i.toNat : Int) := by omega
    refine IH (n - 1) _ _ (by omega) ⟨i + 1, exJ (by simp only [Int.add_assoc]; rfl), ?_, by omega, by omega⟩
    rw [toNat_succ h0', hz, markB_set (by omega)]
  · have e : i.toNat = l.length := by omega
    rw [e, List.drop_length, List.append_nil]
    refine RET fun h' HL => ?_
    try dsimp only [oneA]
    exact ⟨_, ⟨by rw [show i = (l.length : Int) by omega], rfl⟩, HL⟩
end Go.Proofs.Ytdcliofmdlhmaaa
