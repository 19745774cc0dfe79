/- The walk of the law FnExactDoCommute, part 1: what each function that it reaches computes. -/
import Derived.Test.YtcopnjopglfllaaCFnExactDoCommute
namespace Go.Proofs.Ytcopnjopglfllaa
open Go.AL
set_option linter.unusedVariables false
set_option linter.unusedSimpArgs false
set_option maxRecDepth 100000
set_option maxHeartbeats 1000000
attribute [local irreducible] AS AI AIL OpR AC CW AWP ALoop LS LI LIL LThen LLoop LBlk LRet Lh AX OpV OpF

theorem nf {b : Bool} (h : (!b) = false) : b = true := by cases b <;> simp_all

theorem nt {b : Bool} (h : (!b) = true) : b = false := by cases b <;> simp_all

theorem in_ac (n lo hi : Int) (h : AH) : AC Try.prog 49 [.i .i64 n, .i .i64 lo, .i .i64 hi] h (fun v h' => v = .b (decide (lo ≤ n ∧ n ≤ hi)) ∧ h = h') := by
  refine e49 _ _ _ fun wf => ?_
  unfold c49
  repeat (first | refine AI_seqk fun K hK => ?_ | refine AI_reg ?_ | ((first | refine wmv rfl ?_ | refine wag rfl ?_ | refine war _ rfl rfl rfl (by omega) (by omega) ?_ | refine wbn rfl rfl rfl ?_ | refine wnt rfl ?_ | refine wex rfl rfl ?_ | refine wpt rfl (by first | assumption | with_reducible rfl) rfl ?_ | refine wpf rfl (by first | assumption | with_reducible rfl) rfl ?_ | refine wpb rfl rfl rfl ?_ | refine wmf rfl ?_ | refine wnc rfl ?_ | refine wbq Try.underlying4 rfl rfl _ (.inr ⟨rfl, rfl⟩) ?_ | refine wbq Try.underlying4 rfl rfl _ (.inl ⟨rfl, rfl⟩) ?_); try dsimp only [st, List.set_cons_zero, List.set_cons_succ]) | ((first | refine AS_nil ?_ | refine AI_skip ?_ | refine AI_exit ?_); try simp only [AThen, ABlk, reduceIte, reduceCtorEq]) | ((first | refine hK _ _ ?_ | ((first | clear hK K | clear IH hK K); refine hK _ _ ?_) | ((first | clear hK K | clear IH hK K); (first | clear hK K | clear IH hK K); refine hK _ _ ?_) | ((first | clear hK K | clear IH hK K); (first | clear hK K | clear IH hK K); (first | clear hK K | clear IH hK K); refine hK _ _ ?_)); try (first | clear hK K | clear IH hK K)) | refine AI_cond_t rfl (by first | assumption | with_reducible rfl) ?_ | refine AI_cond_f rfl (by first | assumption | with_reducible rfl) ?_ | refine AS_gy rfl (by first | assumption | with_reducible rfl) ?_ | refine AS_gtn rfl (by first | assumption | with_reducible rfl) ?_ | refine AS_gfn rfl (by first | assumption | with_reducible rfl) ?_ | refine AI_block (AI_loop ?_) | refine AI_block ?_ | refine AI_ret ⟨_, rfl, ?_⟩)
  (first | refine AS_gt rfl ?_ ?_ | refine AS_gf rfl ?_ ?_ | refine AI_cond rfl ?_ ?_) <;> intro hc <;> have hc' := hc <;> try simp only [decide_eq_true_eq, decide_eq_false_iff_not, Bool.not_eq_true', Bool.not_eq_false', Bool.not_eq_true, Bool.not_eq_false, beq_iff_eq, bne_iff_ne, beq_eq_false_iff_ne, bne_eq_false_iff_eq, Int.not_lt, Int.not_le, ge_iff_le, gt_iff_lt, not_and, ne_eq, Decidable.not_not] at hc'
  all_goals
    repeat (first | refine AI_seqk fun K hK => ?_ | refine AI_reg ?_ | ((first | refine wmv rfl ?_ | refine wag rfl ?_ | refine war _ rfl rfl rfl (by omega) (by omega) ?_ | refine wbn rfl rfl rfl ?_ | refine wnt rfl ?_ | refine wex rfl rfl ?_ | refine wpt rfl (by first | assumption | with_reducible rfl) rfl ?_ | refine wpf rfl (by first | assumption | with_reducible rfl) rfl ?_ | refine wpb rfl rfl rfl ?_ | refine wmf rfl ?_ | refine wnc rfl ?_ | refine wbq Try.underlying4 rfl rfl _ (.inr ⟨rfl, rfl⟩) ?_ | refine wbq Try.underlying4 rfl rfl _ (.inl ⟨rfl, rfl⟩) ?_); try dsimp only [st, List.set_cons_zero, List.set_cons_succ]) | ((first | refine AS_nil ?_ | refine AI_skip ?_ | refine AI_exit ?_); try simp only [AThen, ABlk, reduceIte, reduceCtorEq]) | ((first | refine hK _ _ ?_ | ((first | clear hK K | clear IH hK K); refine hK _ _ ?_) | ((first | clear hK K | clear IH hK K); (first | clear hK K | clear IH hK K); refine hK _ _ ?_) | ((first | clear hK K | clear IH hK K); (first | clear hK K | clear IH hK K); (first | clear hK K | clear IH hK K); refine hK _ _ ?_)); try (first | clear hK K | clear IH hK K)) | refine AI_cond_t rfl (by first | assumption | with_reducible rfl) ?_ | refine AI_cond_f rfl (by first | assumption | with_reducible rfl) ?_ | refine AS_gy rfl (by first | assumption | with_reducible rfl) ?_ | refine AS_gtn rfl (by first | assumption | with_reducible rfl) ?_ | refine AS_gfn rfl (by first | assumption | with_reducible rfl) ?_ | refine AI_block (AI_loop ?_) | refine AI_block ?_ | refine AI_ret ⟨_, rfl, ?_⟩)
  · exact ⟨by simp [hc', oneA], rfl⟩
  · exact ⟨by first | (simp [oneA, hc']; done) | (simp [oneA, hc']; omega), rfl⟩

theorem l1In_ac (n lo hi : Int) (h : AH) : AC Try.prog 76 [.i .i64 n, .i .i64 lo, .i .i64 hi] h (fun v h' => v = .b (decide (lo ≤ n ∧ n ≤ hi)) ∧ h = h') := by
  refine e76 _ _ _ fun wf => ?_
  unfold c76
  repeat (first | refine AI_seqk fun K hK => ?_ | refine AI_reg ?_ | ((first | refine wmv rfl ?_ | refine wag rfl ?_ | refine war _ rfl rfl rfl (by omega) (by omega) ?_ | refine wbn rfl rfl rfl ?_ | refine wnt rfl ?_ | refine wex rfl rfl ?_ | refine wpt rfl (by first | assumption | with_reducible rfl) rfl ?_ | refine wpf rfl (by first | assumption | with_reducible rfl) rfl ?_ | refine wpb rfl rfl rfl ?_ | refine wmf rfl ?_ | refine wnc rfl ?_ | refine wbq Try.underlying4 rfl rfl _ (.inr ⟨rfl, rfl⟩) ?_ | refine wbq Try.underlying4 rfl rfl _ (.inl ⟨rfl, rfl⟩) ?_); try dsimp only [st, List.set_cons_zero, List.set_cons_succ]) | ((first | refine AS_nil ?_ | refine AI_skip ?_ | refine AI_exit ?_); try simp only [AThen, ABlk, reduceIte, reduceCtorEq]) | ((first | refine hK _ _ ?_ | ((first | clear hK K | clear IH hK K); refine hK _ _ ?_) | ((first | clear hK K | clear IH hK K); (first | clear hK K | clear IH hK K); refine hK _ _ ?_) | ((first | clear hK K | clear IH hK K); (first | clear hK K | clear IH hK K); (first | clear hK K | clear IH hK K); refine hK _ _ ?_)); try (first | clear hK K | clear IH hK K)) | refine AI_cond_t rfl (by first | assumption | with_reducible rfl) ?_ | refine AI_cond_f rfl (by first | assumption | with_reducible rfl) ?_ | refine AS_gy rfl (by first | assumption | with_reducible rfl) ?_ | refine AS_gtn rfl (by first | assumption | with_reducible rfl) ?_ | refine AS_gfn rfl (by first | assumption | with_reducible rfl) ?_ | refine AI_block (AI_loop ?_) | refine AI_block ?_ | refine AI_ret ⟨_, rfl, ?_⟩)
  (first | refine AS_gt rfl ?_ ?_ | refine AS_gf rfl ?_ ?_ | refine AI_cond rfl ?_ ?_) <;> intro hc <;> have hc' := hc <;> try simp only [decide_eq_true_eq, decide_eq_false_iff_not, Bool.not_eq_true', Bool.not_eq_false', Bool.not_eq_true, Bool.not_eq_false, beq_iff_eq, bne_iff_ne, beq_eq_false_iff_ne, bne_eq_false_iff_eq, Int.not_lt, Int.not_le, ge_iff_le, gt_iff_lt, not_and, ne_eq, Decidable.not_not] at hc'
  all_goals
    repeat (first | refine AI_seqk fun K hK => ?_ | refine AI_reg ?_ | ((first | refine wmv rfl ?_ | refine wag rfl ?_ | refine war _ rfl rfl rfl (by omega) (by omega) ?_ | refine wbn rfl rfl rfl ?_ | refine wnt rfl ?_ | refine wex rfl rfl ?_ | refine wpt rfl (by first | assumption | with_reducible rfl) rfl ?_ | refine wpf rfl (by first | assumption | with_reducible rfl) rfl ?_ | refine wpb rfl rfl rfl ?_ | refine wmf rfl ?_ | refine wnc rfl ?_ | refine wbq Try.underlying4 rfl rfl _ (.inr ⟨rfl, rfl⟩) ?_ | refine wbq Try.underlying4 rfl rfl _ (.inl ⟨rfl, rfl⟩) ?_); try dsimp only [st, List.set_cons_zero, List.set_cons_succ]) | ((first | refine AS_nil ?_ | refine AI_skip ?_ | refine AI_exit ?_); try simp only [AThen, ABlk, reduceIte, reduceCtorEq]) | ((first | refine hK _ _ ?_ | ((first | clear hK K | clear IH hK K); refine hK _ _ ?_) | ((first | clear hK K | clear IH hK K); (first | clear hK K | clear IH hK K); refine hK _ _ ?_) | ((first | clear hK K | clear IH hK K); (first | clear hK K | clear IH hK K); (first | clear hK K | clear IH hK K); refine hK _ _ ?_)); try (first | clear hK K | clear IH hK K)) | refine AI_cond_t rfl (by first | assumption | with_reducible rfl) ?_ | refine AI_cond_f rfl (by first | assumption | with_reducible rfl) ?_ | refine AS_gy rfl (by first | assumption | with_reducible rfl) ?_ | refine AS_gtn rfl (by first | assumption | with_reducible rfl) ?_ | refine AS_gfn rfl (by first | assumption | with_reducible rfl) ?_ | refine AI_block (AI_loop ?_) | refine AI_block ?_ | refine AI_ret ⟨_, rfl, ?_⟩)
  · exact ⟨by simp [hc', oneA], rfl⟩
  · exact ⟨by first | (simp [oneA, hc']; done) | (simp [oneA, hc']; omega), rfl⟩

/-- The first place from i on. -/
def idxFrom {α : Type} (p : α → Bool) : List α → Int → Int
  | [], _ => -1
  | x :: l, i => if p x then i else idxFrom p l (i + 1)

theorem idxFrom_any {α : Type} (p : α → Bool) : ∀ (l : List α) (i : Int), 0 ≤ i → (decide (0 ≤ idxFrom p l i)) = l.any p
  | [], i, _ => by simp [idxFrom]
  | x :: l, i, h => by
    cases hp : p x <;> simp [idxFrom, hp, h]
    rw [← idxFrom_any p l (i + 1) (by omega)]

theorem drop_at {α : Type} {l : List α} {i : Int} (h0 : 0 ≤ i) (h1 : i < l.length) : ∃ y, l[i.toNat]? = some y ∧ y ∈ l ∧ l.drop i.toNat = y :: l.drop (i.toNat + 1) := by
  have hlt : i.toNat < l.length := by omega
  exact ⟨l[i.toNat], List.getElem?_eq_getElem hlt, List.getElem_mem hlt, List.drop_eq_getElem_cons hlt⟩

theorem toNat_succ {i : Int} (h0 : 0 ≤ i) : (i + 1).toNat = i.toNat + 1 := by omega

theorem take_set {l : List Int} {i : Nat} {y : Int} (h : i < l.length) (hy : l[i]? = some y) :
    (l.take i ++ List.replicate (l.length - i) (0 : Int)).set i y = l.take (i + 1) ++ List.replicate (l.length - (i + 1)) (0 : Int) := by
  have h1 : (l.take i).length = i := by simp; omega
  rw [List.set_append_right _ _ (by omega), h1, Nat.sub_self, show l.length - i = (l.length - (i + 1)) + 1 by omega, List.replicate_succ, List.set_cons_zero, List.take_add_one, hy]
  simp

theorem rep0 (n : Nat) : List.replicate n (AV.i .i64 0) = (List.replicate n (0 : Int)).flatMap enI := by
  induction n with
  | zero => rfl
  | succ n ih => simp [List.replicate_succ, ih, enI]

theorem toIntS_own (l : List Int) (v : AV) (h : AH) (hR : Rd h v l) (hl : l.length ≤ 1048576) :
    AC Try.prog 35 [v] h (fun r h' => AL.Own h 1 enI h' r l) := by
  refine e35 _ fun wf => ?_
  unfold c35
  repeat (first | refine AI_seqk fun K hK => ?_ | refine AI_reg ?_ | ((first | refine wmv rfl ?_ | refine wag rfl ?_ | refine war _ rfl rfl rfl (by omega) (by omega) ?_ | refine wbn rfl rfl rfl ?_ | refine wnt rfl ?_ | refine wex rfl rfl ?_ | refine wpt rfl (by first | assumption | with_reducible rfl) rfl ?_ | refine wpf rfl (by first | assumption | with_reducible rfl) rfl ?_ | refine wpb rfl rfl rfl ?_ | refine wmf rfl ?_ | refine wnc rfl ?_ | refine wbq Try.underlying4 rfl rfl _ (.inr ⟨rfl, rfl⟩) ?_ | refine wbq Try.underlying4 rfl rfl _ (.inl ⟨rfl, rfl⟩) ?_); try dsimp only [st, List.set_cons_zero, List.set_cons_succ]) | ((first | refine AS_nil ?_ | refine AI_skip ?_ | refine AI_exit ?_); try simp only [AThen, ABlk, reduceIte, reduceCtorEq]) | ((first | refine hK _ _ ?_ | ((first | clear hK K | clear IH hK K); refine hK _ _ ?_) | ((first | clear hK K | clear IH hK K); (first | clear hK K | clear IH hK K); refine hK _ _ ?_) | ((first | clear hK K | clear IH hK K); (first | clear hK K | clear IH hK K); (first | clear hK K | clear IH hK K); refine hK _ _ ?_)); try (first | clear hK K | clear IH hK K)) | refine AI_cond_t rfl (by first | assumption | with_reducible rfl) ?_ | refine AI_cond_f rfl (by first | assumption | with_reducible rfl) ?_ | refine AS_gy rfl (by first | assumption | with_reducible rfl) ?_ | refine AS_gtn rfl (by first | assumption | with_reducible rfl) ?_ | refine AS_gfn rfl (by first | assumption | with_reducible rfl) ?_ | refine AI_block (AI_loop ?_) | refine AI_block ?_ | refine AI_ret ⟨_, rfl, ?_⟩)
  refine AS_op (OpR_lenA Try.underlying31 rfl hR.len ?_)
  try (dsimp only [st, setL, AV.cells, List.set_cons_zero, List.set_cons_succ, List.drop_zero, List.drop_succ_cons, List.take_zero, List.take_succ_cons, Nat.zero_add, Nat.add_zero, Nat.reduceAdd, List.cons_append, List.nil_append, List.eraseIdx_cons_zero, List.eraseIdx_cons_succ])
  repeat (first | refine AI_seqk fun K hK => ?_ | refine AI_reg ?_ | ((first | refine wmv rfl ?_ | refine wag rfl ?_ | refine war _ rfl rfl rfl (by omega) (by omega) ?_ | refine wbn rfl rfl rfl ?_ | refine wnt rfl ?_ | refine wex rfl rfl ?_ | refine wpt rfl (by first | assumption | with_reducible rfl) rfl ?_ | refine wpf rfl (by first | assumption | with_reducible rfl) rfl ?_ | refine wpb rfl rfl rfl ?_ | refine wmf rfl ?_ | refine wnc rfl ?_ | refine wbq Try.underlying4 rfl rfl _ (.inr ⟨rfl, rfl⟩) ?_ | refine wbq Try.underlying4 rfl rfl _ (.inl ⟨rfl, rfl⟩) ?_); try dsimp only [st, List.set_cons_zero, List.set_cons_succ]) | ((first | refine AS_nil ?_ | refine AI_skip ?_ | refine AI_exit ?_); try simp only [AThen, ABlk, reduceIte, reduceCtorEq]) | ((first | refine hK _ _ ?_ | ((first | clear hK K | clear IH hK K); refine hK _ _ ?_) | ((first | clear hK K | clear IH hK K); (first | clear hK K | clear IH hK K); refine hK _ _ ?_) | ((first | clear hK K | clear IH hK K); (first | clear hK K | clear IH hK K); (first | clear hK K | clear IH hK K); refine hK _ _ ?_)); try (first | clear hK K | clear IH hK K)) | refine AI_cond_t rfl (by first | assumption | with_reducible rfl) ?_ | refine AI_cond_f rfl (by first | assumption | with_reducible rfl) ?_ | refine AS_gy rfl (by first | assumption | with_reducible rfl) ?_ | refine AS_gtn rfl (by first | assumption | with_reducible rfl) ?_ | refine AS_gfn rfl (by first | assumption | with_reducible rfl) ?_ | refine AI_block (AI_loop ?_) | refine AI_block ?_ | refine AI_ret ⟨_, rfl, ?_⟩)
  refine AS_op (OpR_make Try.underlying31 sz3 by3 ze3 rfl rfl rfl rfl rfl (by omega) (by omega) (by omega) ?_)
  try (dsimp only [st, setL, AV.cells, List.set_cons_zero, List.set_cons_succ, List.drop_zero, List.drop_succ_cons, List.take_zero, List.take_succ_cons, Nat.zero_add, Nat.add_zero, Nat.reduceAdd, List.cons_append, List.nil_append, List.eraseIdx_cons_zero, List.eraseIdx_cons_succ])
  repeat (first | refine AI_seqk fun K hK => ?_ | refine AI_reg ?_ | ((first | refine wmv rfl ?_ | refine wag rfl ?_ | refine war _ rfl rfl rfl (by omega) (by omega) ?_ | refine wbn rfl rfl rfl ?_ | refine wnt rfl ?_ | refine wex rfl rfl ?_ | refine wpt rfl (by first | assumption | with_reducible rfl) rfl ?_ | refine wpf rfl (by first | assumption | with_reducible rfl) rfl ?_ | refine wpb rfl rfl rfl ?_ | refine wmf rfl ?_ | refine wnc rfl ?_ | refine wbq Try.underlying4 rfl rfl _ (.inr ⟨rfl, rfl⟩) ?_ | refine wbq Try.underlying4 rfl rfl _ (.inl ⟨rfl, rfl⟩) ?_); try dsimp only [st, List.set_cons_zero, List.set_cons_succ]) | ((first | refine AS_nil ?_ | refine AI_skip ?_ | refine AI_exit ?_); try simp only [AThen, ABlk, reduceIte, reduceCtorEq]) | ((first | refine hK _ _ ?_ | ((first | clear hK K | clear IH hK K); refine hK _ _ ?_) | ((first | clear hK K | clear IH hK K); (first | clear hK K | clear IH hK K); refine hK _ _ ?_) | ((first | clear hK K | clear IH hK K); (first | clear hK K | clear IH hK K); (first | clear hK K | clear IH hK K); refine hK _ _ ?_)); try (first | clear hK K | clear IH hK K)) | refine AI_cond_t rfl (by first | assumption | with_reducible rfl) ?_ | refine AI_cond_f rfl (by first | assumption | with_reducible rfl) ?_ | refine AS_gy rfl (by first | assumption | with_reducible rfl) ?_ | refine AS_gtn rfl (by first | assumption | with_reducible rfl) ?_ | refine AS_gfn rfl (by first | assumption | with_reducible rfl) ?_ | refine AI_block (AI_loop ?_) | refine AI_block ?_ | refine AI_ret ⟨_, rfl, ?_⟩)
  refine AIL_ind (fun (n : Nat) a h' => ∃ (i : Int), (∃ r : Nat → AV, a = [v, un, .ns, .sl h.cs.length 0 l.length true, .i .i64 i, r 5, r 6, r 7, r 8, r 9, r 10, r 11, r 12, r 13, r 14, r 15, r 16, r 17, r 18, r 19, r 20, r 21]) ∧ 0 ≤ i ∧ i + n = l.length ∧ Mut h 1 enI h' h.cs.length (l.take i.toNat ++ List.replicate (l.length - i.toNat) (0 : Int)))
    ?_ l.length _ _ ⟨0, exJ rfl, by omega, by omega, Mut.fresh wf (.refl h) wf _ (by simpa using rep0 l.length)⟩
  rintro n a h' ⟨i, ⟨r, rfl⟩, h0, hn, hM⟩ IH
  repeat (first | refine AI_seqk fun K hK => ?_ | refine AI_reg ?_ | ((first | refine wmv rfl ?_ | refine wag rfl ?_ | refine war _ rfl rfl rfl (by omega) (by omega) ?_ | refine wbn rfl rfl rfl ?_ | refine wnt rfl ?_ | refine wex rfl rfl ?_ | refine wpt rfl (by first | assumption | with_reducible rfl) rfl ?_ | refine wpf rfl (by first | assumption | with_reducible rfl) rfl ?_ | refine wpb rfl rfl rfl ?_ | refine wmf rfl ?_ | refine wnc rfl ?_ | refine wbq Try.underlying4 rfl rfl _ (.inr ⟨rfl, rfl⟩) ?_ | refine wbq Try.underlying4 rfl rfl _ (.inl ⟨rfl, rfl⟩) ?_); try dsimp only [st, List.set_cons_zero, List.set_cons_succ]) | ((first | refine AS_nil ?_ | refine AI_skip ?_ | refine AI_exit ?_); try simp only [AThen, ABlk, reduceIte, reduceCtorEq]) | ((first | refine hK _ _ ?_ | ((first | clear hK K | clear IH hK K); refine hK _ _ ?_) | ((first | clear hK K | clear IH hK K); (first | clear hK K | clear IH hK K); refine hK _ _ ?_) | ((first | clear hK K | clear IH hK K); (first | clear hK K | clear IH hK K); (first | clear hK K | clear IH hK K); refine hK _ _ ?_)); try (first | clear hK K | clear IH hK K)) | refine AI_cond_t rfl (by first | assumption | with_reducible rfl) ?_ | refine AI_cond_f rfl (by first | assumption | with_reducible rfl) ?_ | refine AS_gy rfl (by first | assumption | with_reducible rfl) ?_ | refine AS_gtn rfl (by first | assumption | with_reducible rfl) ?_ | refine AS_gfn rfl (by first | assumption | with_reducible rfl) ?_ | refine AI_block (AI_loop ?_) | refine AI_block ?_ | refine AI_ret ⟨_, rfl, ?_⟩)
  refine AS_op (OpR_lenA Try.underlying31 rfl hR.len ?_)
  try (dsimp only [st, setL, AV.cells, List.set_cons_zero, List.set_cons_succ, List.drop_zero, List.drop_succ_cons, List.take_zero, List.take_succ_cons, Nat.zero_add, Nat.add_zero, Nat.reduceAdd, List.cons_append, List.nil_append, List.eraseIdx_cons_zero, List.eraseIdx_cons_succ])
  repeat (first | refine AI_seqk fun K hK => ?_ | refine AI_reg ?_ | ((first | refine wmv rfl ?_ | refine wag rfl ?_ | refine war _ rfl rfl rfl (by omega) (by omega) ?_ | refine wbn rfl rfl rfl ?_ | refine wnt rfl ?_ | refine wex rfl rfl ?_ | refine wpt rfl (by first | assumption | with_reducible rfl) rfl ?_ | refine wpf rfl (by first | assumption | with_reducible rfl) rfl ?_ | refine wpb rfl rfl rfl ?_ | refine wmf rfl ?_ | refine wnc rfl ?_ | refine wbq Try.underlying4 rfl rfl _ (.inr ⟨rfl, rfl⟩) ?_ | refine wbq Try.underlying4 rfl rfl _ (.inl ⟨rfl, rfl⟩) ?_); try dsimp only [st, List.set_cons_zero, List.set_cons_succ]) | ((first | refine AS_nil ?_ | refine AI_skip ?_ | refine AI_exit ?_); try simp only [AThen, ABlk, reduceIte, reduceCtorEq]) | ((first | refine hK _ _ ?_ | ((first | clear hK K | clear IH hK K); refine hK _ _ ?_) | ((first | clear hK K | clear IH hK K); (first | clear hK K | clear IH hK K); refine hK _ _ ?_) | ((first | clear hK K | clear IH hK K); (first | clear hK K | clear IH hK K); (first | clear hK K | clear IH hK K); refine hK _ _ ?_)); try (first | clear hK K | clear IH hK K)) | refine AI_cond_t rfl (by first | assumption | with_reducible rfl) ?_ | refine AI_cond_f rfl (by first | assumption | with_reducible rfl) ?_ | refine AS_gy rfl (by first | assumption | with_reducible rfl) ?_ | refine AS_gtn rfl (by first | assumption | with_reducible rfl) ?_ | refine AS_gfn rfl (by first | assumption | with_reducible rfl) ?_ | refine AI_block (AI_loop ?_) | refine AI_block ?_ | refine AI_ret ⟨_, rfl, ?_⟩)
  (first | refine AS_gt rfl ?_ ?_ | refine AS_gf rfl ?_ ?_ | refine AI_cond rfl ?_ ?_) <;> intro hc <;> have hc' := hc <;> try simp only [decide_eq_true_eq, decide_eq_false_iff_not, Bool.not_eq_true', Bool.not_eq_false', Bool.not_eq_true, Bool.not_eq_false, beq_iff_eq, bne_iff_ne, beq_eq_false_iff_ne, bne_eq_false_iff_eq, Int.not_lt, Int.not_le, ge_iff_le, gt_iff_lt, not_and, ne_eq, Decidable.not_not] at hc'
  all_goals
    repeat (first | refine AI_seqk fun K hK => ?_ | refine AI_reg ?_ | ((first | refine wmv rfl ?_ | refine wag rfl ?_ | refine war _ rfl rfl rfl (by omega) (by omega) ?_ | refine wbn rfl rfl rfl ?_ | refine wnt rfl ?_ | refine wex rfl rfl ?_ | refine wpt rfl (by first | assumption | with_reducible rfl) rfl ?_ | refine wpf rfl (by first | assumption | with_reducible rfl) rfl ?_ | refine wpb rfl rfl rfl ?_ | refine wmf rfl ?_ | refine wnc rfl ?_ | refine wbq Try.underlying4 rfl rfl _ (.inr ⟨rfl, rfl⟩) ?_ | refine wbq Try.underlying4 rfl rfl _ (.inl ⟨rfl, rfl⟩) ?_); try dsimp only [st, List.set_cons_zero, List.set_cons_succ]) | ((first | refine AS_nil ?_ | refine AI_skip ?_ | refine AI_exit ?_); try simp only [AThen, ABlk, reduceIte, reduceCtorEq]) | ((first | refine hK _ _ ?_ | ((first | clear hK K | clear IH hK K); refine hK _ _ ?_) | ((first | clear hK K | clear IH hK K); (first | clear hK K | clear IH hK K); refine hK _ _ ?_) | ((first | clear hK K | clear IH hK K); (first | clear hK K | clear IH hK K); (first | clear hK K | clear IH hK K); refine hK _ _ ?_)); try (first | clear hK K | clear IH hK K)) | refine AI_cond_t rfl (by first | assumption | with_reducible rfl) ?_ | refine AI_cond_f rfl (by first | assumption | with_reducible rfl) ?_ | refine AS_gy rfl (by first | assumption | with_reducible rfl) ?_ | refine AS_gtn rfl (by first | assumption | with_reducible rfl) ?_ | refine AS_gfn rfl (by first | assumption | with_reducible rfl) ?_ | refine AI_block (AI_loop ?_) | refine AI_block ?_ | refine AI_ret ⟨_, rfl, ?_⟩)
  · obtain ⟨y, hy, _, _⟩ := drop_at h0 hc'
    refine AS_op (OpR_idx Try.underlying31 sz3 rfl rfl (hR.le hM.le) (fun _ => rfl) h0 hy fun b o hrow => ?_)
    try (dsimp only [st, setL, AV.cells, List.set_cons_zero, List.set_cons_succ, List.drop_zero, List.drop_succ_cons, List.take_zero, List.take_succ_cons, Nat.zero_add, Nat.add_zero, Nat.reduceAdd, List.cons_append, List.nil_append, List.eraseIdx_cons_zero, List.eraseIdx_cons_succ])
    repeat (first | refine AI_seqk fun K hK => ?_ | refine AI_reg ?_ | ((first | refine wmv rfl ?_ | refine wag rfl ?_ | refine war _ rfl rfl rfl (by omega) (by omega) ?_ | refine wbn rfl rfl rfl ?_ | refine wnt rfl ?_ | refine wex rfl rfl ?_ | refine wpt rfl (by first | assumption | with_reducible rfl) rfl ?_ | refine wpf rfl (by first | assumption | with_reducible rfl) rfl ?_ | refine wpb rfl rfl rfl ?_ | refine wmf rfl ?_ | refine wnc rfl ?_ | refine wbq Try.underlying4 rfl rfl _ (.inr ⟨rfl, rfl⟩) ?_ | refine wbq Try.underlying4 rfl rfl _ (.inl ⟨rfl, rfl⟩) ?_); try dsimp only [st, List.set_cons_zero, List.set_cons_succ]) | ((first | refine AS_nil ?_ | refine AI_skip ?_ | refine AI_exit ?_); try simp only [AThen, ABlk, reduceIte, reduceCtorEq]) | ((first | refine hK _ _ ?_ | ((first | clear hK K | clear IH hK K); refine hK _ _ ?_) | ((first | clear hK K | clear IH hK K); (first | clear hK K | clear IH hK K); refine hK _ _ ?_) | ((first | clear hK K | clear IH hK K); (first | clear hK K | clear IH hK K); (first | clear hK K | clear IH hK K); refine hK _ _ ?_)); try (first | clear hK K | clear IH hK K)) | refine AI_cond_t rfl (by first | assumption | with_reducible rfl) ?_ | refine AI_cond_f rfl (by first | assumption | with_reducible rfl) ?_ | refine AS_gy rfl (by first | assumption | with_reducible rfl) ?_ | refine AS_gtn rfl (by first | assumption | with_reducible rfl) ?_ | refine AS_gfn rfl (by first | assumption | with_reducible rfl) ?_ | refine AI_block (AI_loop ?_) | refine AI_block ?_ | refine AI_ret ⟨_, rfl, ?_⟩)
    refine AS_op (OpR_load rfl (loadA_1 ag3 (cell_row hrow)) ?_)
    try (dsimp only [st, setL, AV.cells, List.set_cons_zero, List.set_cons_succ, List.drop_zero, List.drop_succ_cons, List.take_zero, List.take_succ_cons, Nat.zero_add, Nat.add_zero, Nat.reduceAdd, List.cons_append, List.nil_append, List.eraseIdx_cons_zero, List.eraseIdx_cons_succ])
    repeat (first | refine AI_seqk fun K hK => ?_ | refine AI_reg ?_ | ((first | refine wmv rfl ?_ | refine wag rfl ?_ | refine war _ rfl rfl rfl (by omega) (by omega) ?_ | refine wbn rfl rfl rfl ?_ | refine wnt rfl ?_ | refine wex rfl rfl ?_ | refine wpt rfl (by first | assumption | with_reducible rfl) rfl ?_ | refine wpf rfl (by first | assumption | with_reducible rfl) rfl ?_ | refine wpb rfl rfl rfl ?_ | refine wmf rfl ?_ | refine wnc rfl ?_ | refine wbq Try.underlying4 rfl rfl _ (.inr ⟨rfl, rfl⟩) ?_ | refine wbq Try.underlying4 rfl rfl _ (.inl ⟨rfl, rfl⟩) ?_); try dsimp only [st, List.set_cons_zero, List.set_cons_succ]) | ((first | refine AS_nil ?_ | refine AI_skip ?_ | refine AI_exit ?_); try simp only [AThen, ABlk, reduceIte, reduceCtorEq]) | ((first | refine hK _ _ ?_ | ((first | clear hK K | clear IH hK K); refine hK _ _ ?_) | ((first | clear hK K | clear IH hK K); (first | clear hK K | clear IH hK K); refine hK _ _ ?_) | ((first | clear hK K | clear IH hK K); (first | clear hK K | clear IH hK K); (first | clear hK K | clear IH hK K); refine hK _ _ ?_)); try (first | clear hK K | clear IH hK K)) | refine AI_cond_t rfl (by first | assumption | with_reducible rfl) ?_ | refine AI_cond_f rfl (by first | assumption | with_reducible rfl) ?_ | refine AS_gy rfl (by first | assumption | with_reducible rfl) ?_ | refine AS_gtn rfl (by first | assumption | with_reducible rfl) ?_ | refine AS_gfn rfl (by first | assumption | with_reducible rfl) ?_ | refine AI_block (AI_loop ?_) | refine AI_block ?_ | refine AI_ret ⟨_, rfl, ?_⟩)
    refine AS_op (OpR_idxs Try.underlying31 sz3 rfl rfl h0 hc' ?_)
    try (dsimp only [st, setL, AV.cells, List.set_cons_zero, List.set_cons_succ, List.drop_zero, List.drop_succ_cons, List.take_zero, List.take_succ_cons, Nat.zero_add, Nat.add_zero, Nat.reduceAdd, List.cons_append, List.nil_append, List.eraseIdx_cons_zero, List.eraseIdx_cons_succ])
    repeat (first | refine AI_seqk fun K hK => ?_ | refine AI_reg ?_ | ((first | refine wmv rfl ?_ | refine wag rfl ?_ | refine war _ rfl rfl rfl (by omega) (by omega) ?_ | refine wbn rfl rfl rfl ?_ | refine wnt rfl ?_ | refine wex rfl rfl ?_ | refine wpt rfl (by first | assumption | with_reducible rfl) rfl ?_ | refine wpf rfl (by first | assumption | with_reducible rfl) rfl ?_ | refine wpb rfl rfl rfl ?_ | refine wmf rfl ?_ | refine wnc rfl ?_ | refine wbq Try.underlying4 rfl rfl _ (.inr ⟨rfl, rfl⟩) ?_ | refine wbq Try.underlying4 rfl rfl _ (.inl ⟨rfl, rfl⟩) ?_); try dsimp only [st, List.set_cons_zero, List.set_cons_succ]) | ((first | refine AS_nil ?_ | refine AI_skip ?_ | refine AI_exit ?_); try simp only [AThen, ABlk, reduceIte, reduceCtorEq]) | ((first | refine hK _ _ ?_ | ((first | clear hK K | clear IH hK K); refine hK _ _ ?_) | ((first | clear hK K | clear IH hK K); (first | clear hK K | clear IH hK K); refine hK _ _ ?_) | ((first | clear hK K | clear IH hK K); (first | clear hK K | clear IH hK K); (first | clear hK K | clear IH hK K); refine hK _ _ ?_)); try (first | clear hK K | clear IH hK K)) | refine AI_cond_t rfl (by first | assumption | with_reducible rfl) ?_ | refine AI_cond_f rfl (by first | assumption | with_reducible rfl) ?_ | refine AS_gy rfl (by first | assumption | with_reducible rfl) ?_ | refine AS_gtn rfl (by first | assumption | with_reducible rfl) ?_ | refine AS_gfn rfl (by first | assumption | with_reducible rfl) ?_ | refine AI_block (AI_loop ?_) | refine AI_block ?_ | refine AI_ret ⟨_, rfl, ?_⟩)
    refine AS_op (OpR_storeM rfl rfl sz3 enI1 hM (z := y) (i := i.toNat) (by simp; omega) (by omega) rfl rfl fun h2 row _ hM2 => ?_)
    try (dsimp only [st, setL, AV.cells, List.set_cons_zero, List.set_cons_succ, List.drop_zero, List.drop_succ_cons, List.take_zero, List.take_succ_cons, Nat.zero_add, Nat.add_zero, Nat.reduceAdd, List.cons_append, List.nil_append, List.eraseIdx_cons_zero, List.eraseIdx_cons_succ])
    repeat (first | refine AI_seqk fun K hK => ?_ | refine AI_reg ?_ | ((first | refine wmv rfl ?_ | refine wag rfl ?_ | refine war _ rfl rfl rfl (by omega) (by omega) ?_ | refine wbn rfl rfl rfl ?_ | refine wnt rfl ?_ | refine wex rfl rfl ?_ | refine wpt rfl (by first | assumption | with_reducible rfl) rfl ?_ | refine wpf rfl (by first | assumption | with_reducible rfl) rfl ?_ | refine wpb rfl rfl rfl ?_ | refine wmf rfl ?_ | refine wnc rfl ?_ | refine wbq Try.underlying4 rfl rfl _ (.inr ⟨rfl, rfl⟩) ?_ | refine wbq Try.underlying4 rfl rfl _ (.inl ⟨rfl, rfl⟩) ?_); try dsimp only [st, List.set_cons_zero, List.set_cons_succ]) | ((first | refine AS_nil ?_ | refine AI_skip ?_ | refine AI_exit ?_); try simp only [AThen, ABlk, reduceIte, reduceCtorEq]) | ((first | refine hK _ _ ?_ | ((first | clear hK K | clear IH hK K); refine hK _ _ ?_) | ((first | clear hK K | clear IH hK K); (first | clear hK K | clear IH hK K); refine hK _ _ ?_) | ((first | clear hK K | clear IH hK K); (first | clear hK K | clear IH hK K); (first | clear hK K | clear IH hK K); refine hK _ _ ?_)); try (first | clear hK K | clear IH hK K)) | refine AI_cond_t rfl (by first | assumption | with_reducible rfl) ?_ | refine AI_cond_f rfl (by first | assumption | with_reducible rfl) ?_ | refine AS_gy rfl (by first | assumption | with_reducible rfl) ?_ | refine AS_gtn rfl (by first | assumption | with_reducible rfl) ?_ | refine AS_gfn rfl (by first | assumption | with_reducible rfl) ?_ | refine AI_block (AI_loop ?_) | refine AI_block ?_ | refine AI_ret ⟨_, rfl, ?_⟩)
    rw [take_set (by omega) hy] at hM2
    refine IH (n - 1) _ _ (by omega) ⟨i + 1, exJ rfl, by omega, by omega, ?_⟩
    rw [toNat_succ h0]
    exact hM2
  · have e : i.toNat = l.length := by omega
    rw [e] at hM
    simp at hM
    exact hM.own enI1 true rfl

theorem eqIntS_ac (l l' : List Int) (v v' : AV) (h : AH) (hR : Rd h v l) (hR' : Rd h v' l') (hl : l.length ≤ 4611686018427387904) :
    AC Try.prog 36 [v, v'] h (fun r h' => r = .b (decide (l = l')) ∧ h = h') := by
  refine e36 _ _ fun wf => ?_
  unfold c36
  repeat (first | refine AI_seqk fun K hK => ?_ | refine AI_reg ?_ | ((first | refine wmv rfl ?_ | refine wag rfl ?_ | refine war _ rfl rfl rfl (by omega) (by omega) ?_ | refine wbn rfl rfl rfl ?_ | refine wnt rfl ?_ | refine wex rfl rfl ?_ | refine wpt rfl (by first | assumption | with_reducible rfl) rfl ?_ | refine wpf rfl (by first | assumption | with_reducible rfl) rfl ?_ | refine wpb rfl rfl rfl ?_ | refine wmf rfl ?_ | refine wnc rfl ?_ | refine wbq Try.underlying4 rfl rfl _ (.inr ⟨rfl, rfl⟩) ?_ | refine wbq Try.underlying4 rfl rfl _ (.inl ⟨rfl, rfl⟩) ?_); try dsimp only [st, List.set_cons_zero, List.set_cons_succ]) | ((first | refine AS_nil ?_ | refine AI_skip ?_ | refine AI_exit ?_); try simp only [AThen, ABlk, reduceIte, reduceCtorEq]) | ((first | refine hK _ _ ?_ | ((first | clear hK K | clear IH hK K); refine hK _ _ ?_) | ((first | clear hK K | clear IH hK K); (first | clear hK K | clear IH hK K); refine hK _ _ ?_) | ((first | clear hK K | clear IH hK K); (first | clear hK K | clear IH hK K); (first | clear hK K | clear IH hK K); refine hK _ _ ?_)); try (first | clear hK K | clear IH hK K)) | refine AI_cond_t rfl (by first | assumption | with_reducible rfl) ?_ | refine AI_cond_f rfl (by first | assumption | with_reducible rfl) ?_ | refine AS_gy rfl (by first | assumption | with_reducible rfl) ?_ | refine AS_gtn rfl (by first | assumption | with_reducible rfl) ?_ | refine AS_gfn rfl (by first | assumption | with_reducible rfl) ?_ | refine AI_block (AI_loop ?_) | refine AI_block ?_ | refine AI_ret ⟨_, rfl, ?_⟩)
  refine AS_op (OpR_lenA Try.underlying31 rfl hR.len ?_)
  try (dsimp only [st, setL, AV.cells, List.set_cons_zero, List.set_cons_succ, List.drop_zero, List.drop_succ_cons, List.take_zero, List.take_succ_cons, Nat.zero_add, Nat.add_zero, Nat.reduceAdd, List.cons_append, List.nil_append, List.eraseIdx_cons_zero, List.eraseIdx_cons_succ])
  repeat (first | refine AI_seqk fun K hK => ?_ | refine AI_reg ?_ | ((first | refine wmv rfl ?_ | refine wag rfl ?_ | refine war _ rfl rfl rfl (by omega) (by omega) ?_ | refine wbn rfl rfl rfl ?_ | refine wnt rfl ?_ | refine wex rfl rfl ?_ | refine wpt rfl (by first | assumption | with_reducible rfl) rfl ?_ | refine wpf rfl (by first | assumption | with_reducible rfl) rfl ?_ | refine wpb rfl rfl rfl ?_ | refine wmf rfl ?_ | refine wnc rfl ?_ | refine wbq Try.underlying4 rfl rfl _ (.inr ⟨rfl, rfl⟩) ?_ | refine wbq Try.underlying4 rfl rfl _ (.inl ⟨rfl, rfl⟩) ?_); try dsimp only [st, List.set_cons_zero, List.set_cons_succ]) | ((first | refine AS_nil ?_ | refine AI_skip ?_ | refine AI_exit ?_); try simp only [AThen, ABlk, reduceIte, reduceCtorEq]) | ((first | refine hK _ _ ?_ | ((first | clear hK K | clear IH hK K); refine hK _ _ ?_) | ((first | clear hK K | clear IH hK K); (first | clear hK K | clear IH hK K); refine hK _ _ ?_) | ((first | clear hK K | clear IH hK K); (first | clear hK K | clear IH hK K); (first | clear hK K | clear IH hK K); refine hK _ _ ?_)); try (first | clear hK K | clear IH hK K)) | refine AI_cond_t rfl (by first | assumption | with_reducible rfl) ?_ | refine AI_cond_f rfl (by first | assumption | with_reducible rfl) ?_ | refine AS_gy rfl (by first | assumption | with_reducible rfl) ?_ | refine AS_gtn rfl (by first | assumption | with_reducible rfl) ?_ | refine AS_gfn rfl (by first | assumption | with_reducible rfl) ?_ | refine AI_block (AI_loop ?_) | refine AI_block ?_ | refine AI_ret ⟨_, rfl, ?_⟩)
  refine AS_op (OpR_lenA Try.underlying31 rfl hR'.len ?_)
  try (dsimp only [st, setL, AV.cells, List.set_cons_zero, List.set_cons_succ, List.drop_zero, List.drop_succ_cons, List.take_zero, List.take_succ_cons, Nat.zero_add, Nat.add_zero, Nat.reduceAdd, List.cons_append, List.nil_append, List.eraseIdx_cons_zero, List.eraseIdx_cons_succ])
  repeat (first | refine AI_seqk fun K hK => ?_ | refine AI_reg ?_ | ((first | refine wmv rfl ?_ | refine wag rfl ?_ | refine war _ rfl rfl rfl (by omega) (by omega) ?_ | refine wbn rfl rfl rfl ?_ | refine wnt rfl ?_ | refine wex rfl rfl ?_ | refine wpt rfl (by first | assumption | with_reducible rfl) rfl ?_ | refine wpf rfl (by first | assumption | with_reducible rfl) rfl ?_ | refine wpb rfl rfl rfl ?_ | refine wmf rfl ?_ | refine wnc rfl ?_ | refine wbq Try.underlying4 rfl rfl _ (.inr ⟨rfl, rfl⟩) ?_ | refine wbq Try.underlying4 rfl rfl _ (.inl ⟨rfl, rfl⟩) ?_); try dsimp only [st, List.set_cons_zero, List.set_cons_succ]) | ((first | refine AS_nil ?_ | refine AI_skip ?_ | refine AI_exit ?_); try simp only [AThen, ABlk, reduceIte, reduceCtorEq]) | ((first | refine hK _ _ ?_ | ((first | clear hK K | clear IH hK K); refine hK _ _ ?_) | ((first | clear hK K | clear IH hK K); (first | clear hK K | clear IH hK K); refine hK _ _ ?_) | ((first | clear hK K | clear IH hK K); (first | clear hK K | clear IH hK K); (first | clear hK K | clear IH hK K); refine hK _ _ ?_)); try (first | clear hK K | clear IH hK K)) | refine AI_cond_t rfl (by first | assumption | with_reducible rfl) ?_ | refine AI_cond_f rfl (by first | assumption | with_reducible rfl) ?_ | refine AS_gy rfl (by first | assumption | with_reducible rfl) ?_ | refine AS_gtn rfl (by first | assumption | with_reducible rfl) ?_ | refine AS_gfn rfl (by first | assumption | with_reducible rfl) ?_ | refine AI_block (AI_loop ?_) | refine AI_block ?_ | refine AI_ret ⟨_, rfl, ?_⟩)
  (first | refine AS_gt rfl ?_ ?_ | refine AS_gf rfl ?_ ?_ | refine AI_cond rfl ?_ ?_) <;> intro hc <;> have hc' := hc <;> try simp only [decide_eq_true_eq, decide_eq_false_iff_not, Bool.not_eq_true', Bool.not_eq_false', Bool.not_eq_true, Bool.not_eq_false, beq_iff_eq, bne_iff_ne, beq_eq_false_iff_ne, bne_eq_false_iff_eq, Int.not_lt, Int.not_le, ge_iff_le, gt_iff_lt, not_and, ne_eq, Decidable.not_not] at hc'
  all_goals
    repeat (first | refine AI_seqk fun K hK => ?_ | refine AI_reg ?_ | ((first | refine wmv rfl ?_ | refine wag rfl ?_ | refine war _ rfl rfl rfl (by omega) (by omega) ?_ | refine wbn rfl rfl rfl ?_ | refine wnt rfl ?_ | refine wex rfl rfl ?_ | refine wpt rfl (by first | assumption | with_reducible rfl) rfl ?_ | refine wpf rfl (by first | assumption | with_reducible rfl) rfl ?_ | refine wpb rfl rfl rfl ?_ | refine wmf rfl ?_ | refine wnc rfl ?_ | refine wbq Try.underlying4 rfl rfl _ (.inr ⟨rfl, rfl⟩) ?_ | refine wbq Try.underlying4 rfl rfl _ (.inl ⟨rfl, rfl⟩) ?_); try dsimp only [st, List.set_cons_zero, List.set_cons_succ]) | ((first | refine AS_nil ?_ | refine AI_skip ?_ | refine AI_exit ?_); try simp only [AThen, ABlk, reduceIte, reduceCtorEq]) | ((first | refine hK _ _ ?_ | ((first | clear hK K | clear IH hK K); refine hK _ _ ?_) | ((first | clear hK K | clear IH hK K); (first | clear hK K | clear IH hK K); refine hK _ _ ?_) | ((first | clear hK K | clear IH hK K); (first | clear hK K | clear IH hK K); (first | clear hK K | clear IH hK K); refine hK _ _ ?_)); try (first | clear hK K | clear IH hK K)) | refine AI_cond_t rfl (by first | assumption | with_reducible rfl) ?_ | refine AI_cond_f rfl (by first | assumption | with_reducible rfl) ?_ | refine AS_gy rfl (by first | assumption | with_reducible rfl) ?_ | refine AS_gtn rfl (by first | assumption | with_reducible rfl) ?_ | refine AS_gfn rfl (by first | assumption | with_reducible rfl) ?_ | refine AI_block (AI_loop ?_) | refine AI_block ?_ | refine AI_ret ⟨_, rfl, ?_⟩)
  · refine ⟨?_, rfl⟩
    simp only [oneA, AV.b.injEq]
    symm
    simp
    intro e
    subst e
    exact hc' rfl
  · have hlen : l.length = l'.length := by omega
    refine AIL_ind (fun (n : Nat) a h' => ∃ (i : Int), (∃ r : Nat → AV, a = [v, v', un, un, .b false, .i .i64 i, r 6, r 7, r 8, r 9, r 10, r 11, r 12, r 13, r 14, r 15, r 16, r 17, r 18, r 19, r 20, r 21, r 22, r 23, r 24, r 25]) ∧ 0 ≤ i ∧ i + n = l.length ∧ h = h' ∧ l.take i.toNat = l'.take i.toNat)
      ?_ l.length _ _ ⟨0, exJ rfl, by omega, by omega, rfl, by simp⟩
    rintro n a h' ⟨i, ⟨r, rfl⟩, h0, hn, rfl, heq⟩ IH
    repeat (first | refine AI_seqk fun K hK => ?_ | refine AI_reg ?_ | ((first | refine wmv rfl ?_ | refine wag rfl ?_ | refine war _ rfl rfl rfl (by omega) (by omega) ?_ | refine wbn rfl rfl rfl ?_ | refine wnt rfl ?_ | refine wex rfl rfl ?_ | refine wpt rfl (by first | assumption | with_reducible rfl) rfl ?_ | refine wpf rfl (by first | assumption | with_reducible rfl) rfl ?_ | refine wpb rfl rfl rfl ?_ | refine wmf rfl ?_ | refine wnc rfl ?_ | refine wbq Try.underlying4 rfl rfl _ (.inr ⟨rfl, rfl⟩) ?_ | refine wbq Try.underlying4 rfl rfl _ (.inl ⟨rfl, rfl⟩) ?_); try dsimp only [st, List.set_cons_zero, List.set_cons_succ]) | ((first | refine AS_nil ?_ | refine AI_skip ?_ | refine AI_exit ?_); try simp only [AThen, ABlk, reduceIte, reduceCtorEq]) | ((first | refine hK _ _ ?_ | ((first | clear hK K | clear IH hK K); refine hK _ _ ?_) | ((first | clear hK K | clear IH hK K); (first | clear hK K | clear IH hK K); refine hK _ _ ?_) | ((first | clear hK K | clear IH hK K); (first | clear hK K | clear IH hK K); (first | clear hK K | clear IH hK K); refine hK _ _ ?_)); try (first | clear hK K | clear IH hK K)) | refine AI_cond_t rfl (by first | assumption | with_reducible rfl) ?_ | refine AI_cond_f rfl (by first | assumption | with_reducible rfl) ?_ | refine AS_gy rfl (by first | assumption | with_reducible rfl) ?_ | refine AS_gtn rfl (by first | assumption | with_reducible rfl) ?_ | refine AS_gfn rfl (by first | assumption | with_reducible rfl) ?_ | refine AI_block (AI_loop ?_) | refine AI_block ?_ | refine AI_ret ⟨_, rfl, ?_⟩)
    refine AS_op (OpR_lenA Try.underlying31 rfl hR.len ?_)
    try (dsimp only [st, setL, AV.cells, List.set_cons_zero, List.set_cons_succ, List.drop_zero, List.drop_succ_cons, List.take_zero, List.take_succ_cons, Nat.zero_add, Nat.add_zero, Nat.reduceAdd, List.cons_append, List.nil_append, List.eraseIdx_cons_zero, List.eraseIdx_cons_succ])
    repeat (first | refine AI_seqk fun K hK => ?_ | refine AI_reg ?_ | ((first | refine wmv rfl ?_ | refine wag rfl ?_ | refine war _ rfl rfl rfl (by omega) (by omega) ?_ | refine wbn rfl rfl rfl ?_ | refine wnt rfl ?_ | refine wex rfl rfl ?_ | refine wpt rfl (by first | assumption | with_reducible rfl) rfl ?_ | refine wpf rfl (by first | assumption | with_reducible rfl) rfl ?_ | refine wpb rfl rfl rfl ?_ | refine wmf rfl ?_ | refine wnc rfl ?_ | refine wbq Try.underlying4 rfl rfl _ (.inr ⟨rfl, rfl⟩) ?_ | refine wbq Try.underlying4 rfl rfl _ (.inl ⟨rfl, rfl⟩) ?_); try dsimp only [st, List.set_cons_zero, List.set_cons_succ]) | ((first | refine AS_nil ?_ | refine AI_skip ?_ | refine AI_exit ?_); try simp only [AThen, ABlk, reduceIte, reduceCtorEq]) | ((first | refine hK _ _ ?_ | ((first | clear hK K | clear IH hK K); refine hK _ _ ?_) | ((first | clear hK K | clear IH hK K); (first | clear hK K | clear IH hK K); refine hK _ _ ?_) | ((first | clear hK K | clear IH hK K); (first | clear hK K | clear IH hK K); (first | clear hK K | clear IH hK K); refine hK _ _ ?_)); try (first | clear hK K | clear IH hK K)) | refine AI_cond_t rfl (by first | assumption | with_reducible rfl) ?_ | refine AI_cond_f rfl (by first | assumption | with_reducible rfl) ?_ | refine AS_gy rfl (by first | assumption | with_reducible rfl) ?_ | refine AS_gtn rfl (by first | assumption | with_reducible rfl) ?_ | refine AS_gfn rfl (by first | assumption | with_reducible rfl) ?_ | refine AI_block (AI_loop ?_) | refine AI_block ?_ | refine AI_ret ⟨_, rfl, ?_⟩)
    (first | refine AS_gt rfl ?_ ?_ | refine AS_gf rfl ?_ ?_ | refine AI_cond rfl ?_ ?_) <;> intro hc <;> have hc' := hc <;> try simp only [decide_eq_true_eq, decide_eq_false_iff_not, Bool.not_eq_true', Bool.not_eq_false', Bool.not_eq_true, Bool.not_eq_false, beq_iff_eq, bne_iff_ne, beq_eq_false_iff_ne, bne_eq_false_iff_eq, Int.not_lt, Int.not_le, ge_iff_le, gt_iff_lt, not_and, ne_eq, Decidable.not_not] at hc'
    all_goals
      repeat (first | refine AI_seqk fun K hK => ?_ | refine AI_reg ?_ | ((first | refine wmv rfl ?_ | refine wag rfl ?_ | refine war _ rfl rfl rfl (by omega) (by omega) ?_ | refine wbn rfl rfl rfl ?_ | refine wnt rfl ?_ | refine wex rfl rfl ?_ | refine wpt rfl (by first | assumption | with_reducible rfl) rfl ?_ | refine wpf rfl (by first | assumption | with_reducible rfl) rfl ?_ | refine wpb rfl rfl rfl ?_ | refine wmf rfl ?_ | refine wnc rfl ?_ | refine wbq Try.underlying4 rfl rfl _ (.inr ⟨rfl, rfl⟩) ?_ | refine wbq Try.underlying4 rfl rfl _ (.inl ⟨rfl, rfl⟩) ?_); try dsimp only [st, List.set_cons_zero, List.set_cons_succ]) | ((first | refine AS_nil ?_ | refine AI_skip ?_ | refine AI_exit ?_); try simp only [AThen, ABlk, reduceIte, reduceCtorEq]) | ((first | refine hK _ _ ?_ | ((first | clear hK K | clear IH hK K); refine hK _ _ ?_) | ((first | clear hK K | clear IH hK K); (first | clear hK K | clear IH hK K); refine hK _ _ ?_) | ((first | clear hK K | clear IH hK K); (first | clear hK K | clear IH hK K); (first | clear hK K | clear IH hK K); refine hK _ _ ?_)); try (first | clear hK K | clear IH hK K)) | refine AI_cond_t rfl (by first | assumption | with_reducible rfl) ?_ | refine AI_cond_f rfl (by first | assumption | with_reducible rfl) ?_ | refine AS_gy rfl (by first | assumption | with_reducible rfl) ?_ | refine AS_gtn rfl (by first | assumption | with_reducible rfl) ?_ | refine AS_gfn rfl (by first | assumption | with_reducible rfl) ?_ | refine AI_block (AI_loop ?_) | refine AI_block ?_ | refine AI_ret ⟨_, rfl, ?_⟩)
    · obtain ⟨y, hy, _, _⟩ := drop_at h0 hc'
      obtain ⟨y', hy', _, _⟩ := drop_at (l := l') h0 (by omega)
      refine dr36_0 0 ?_
      repeat (first | ((first | refine AX_v (OpV_move rfl) ?_ | refine AX_v (OpV_assign rfl) ?_ | refine AX_v (OpV_arith _ rfl rfl rfl (by omega) (by omega)) ?_ | refine AX_v (OpV_bin rfl rfl rfl) ?_ | refine AX_v (OpV_not rfl) ?_ | refine AX_v (OpV_extract rfl rfl) ?_ | refine AX_v (OpV_nilCheck rfl) ?_); try dsimp only [st, List.set_cons_zero, List.set_cons_succ]) | (refine AX_nil ?_; try simp only [AThen, ABlk, reduceIte, reduceCtorEq]))
      refine AX_idx Try.underlying31 sz3 rfl rfl hR (fun _ => rfl) h0 hy fun b o hrow => ?_
      try (dsimp only [st, setL, AV.cells, List.set_cons_zero, List.set_cons_succ, List.drop_zero, List.drop_succ_cons, List.take_zero, List.take_succ_cons, Nat.zero_add, Nat.add_zero, Nat.reduceAdd, List.cons_append, List.nil_append, List.eraseIdx_cons_zero, List.eraseIdx_cons_succ])
      repeat (first | ((first | refine AX_v (OpV_move rfl) ?_ | refine AX_v (OpV_assign rfl) ?_ | refine AX_v (OpV_arith _ rfl rfl rfl (by omega) (by omega)) ?_ | refine AX_v (OpV_bin rfl rfl rfl) ?_ | refine AX_v (OpV_not rfl) ?_ | refine AX_v (OpV_extract rfl rfl) ?_ | refine AX_v (OpV_nilCheck rfl) ?_); try dsimp only [st, List.set_cons_zero, List.set_cons_succ]) | (refine AX_nil ?_; try simp only [AThen, ABlk, reduceIte, reduceCtorEq]))
      refine AX_f (OpF_load rfl (loadA_1 ag3 (cell_row hrow)) (by first | (intro e; cases e; done) | (intro _; rfl) | simp [det, detS])) ?_
      try (dsimp only [st, setL, AV.cells, List.set_cons_zero, List.set_cons_succ, List.drop_zero, List.drop_succ_cons, List.take_zero, List.take_succ_cons, Nat.zero_add, Nat.add_zero, Nat.reduceAdd, List.cons_append, List.nil_append, List.eraseIdx_cons_zero, List.eraseIdx_cons_succ])
      repeat (first | ((first | refine AX_v (OpV_move rfl) ?_ | refine AX_v (OpV_assign rfl) ?_ | refine AX_v (OpV_arith _ rfl rfl rfl (by omega) (by omega)) ?_ | refine AX_v (OpV_bin rfl rfl rfl) ?_ | refine AX_v (OpV_not rfl) ?_ | refine AX_v (OpV_extract rfl rfl) ?_ | refine AX_v (OpV_nilCheck rfl) ?_); try dsimp only [st, List.set_cons_zero, List.set_cons_succ]) | (refine AX_nil ?_; try simp only [AThen, ABlk, reduceIte, reduceCtorEq]))
      refine AX_idx Try.underlying31 sz3 rfl rfl hR' (fun _ => rfl) h0 hy' fun b o hrow => ?_
      try (dsimp only [st, setL, AV.cells, List.set_cons_zero, List.set_cons_succ, List.drop_zero, List.drop_succ_cons, List.take_zero, List.take_succ_cons, Nat.zero_add, Nat.add_zero, Nat.reduceAdd, List.cons_append, List.nil_append, List.eraseIdx_cons_zero, List.eraseIdx_cons_succ])
      repeat (first | ((first | refine AX_v (OpV_move rfl) ?_ | refine AX_v (OpV_assign rfl) ?_ | refine AX_v (OpV_arith _ rfl rfl rfl (by omega) (by omega)) ?_ | refine AX_v (OpV_bin rfl rfl rfl) ?_ | refine AX_v (OpV_not rfl) ?_ | refine AX_v (OpV_extract rfl rfl) ?_ | refine AX_v (OpV_nilCheck rfl) ?_); try dsimp only [st, List.set_cons_zero, List.set_cons_succ]) | (refine AX_nil ?_; try simp only [AThen, ABlk, reduceIte, reduceCtorEq]))
      refine AX_f (OpF_load rfl (loadA_1 ag3 (cell_row hrow)) (by first | (intro e; cases e; done) | (intro _; rfl) | simp [det, detS])) ?_
      try (dsimp only [st, setL, AV.cells, List.set_cons_zero, List.set_cons_succ, List.drop_zero, List.drop_succ_cons, List.take_zero, List.take_succ_cons, Nat.zero_add, Nat.add_zero, Nat.reduceAdd, List.cons_append, List.nil_append, List.eraseIdx_cons_zero, List.eraseIdx_cons_succ])
      repeat (first | ((first | refine AX_v (OpV_move rfl) ?_ | refine AX_v (OpV_assign rfl) ?_ | refine AX_v (OpV_arith _ rfl rfl rfl (by omega) (by omega)) ?_ | refine AX_v (OpV_bin rfl rfl rfl) ?_ | refine AX_v (OpV_not rfl) ?_ | refine AX_v (OpV_extract rfl rfl) ?_ | refine AX_v (OpV_nilCheck rfl) ?_); try dsimp only [st, List.set_cons_zero, List.set_cons_succ]) | (refine AX_nil ?_; try simp only [AThen, ABlk, reduceIte, reduceCtorEq]))
      repeat (first | refine AI_seqk fun K hK => ?_ | refine AI_reg ?_ | ((first | refine wmv rfl ?_ | refine wag rfl ?_ | refine war _ rfl rfl rfl (by omega) (by omega) ?_ | refine wbn rfl rfl rfl ?_ | refine wnt rfl ?_ | refine wex rfl rfl ?_ | refine wpt rfl (by first | assumption | with_reducible rfl) rfl ?_ | refine wpf rfl (by first | assumption | with_reducible rfl) rfl ?_ | refine wpb rfl rfl rfl ?_ | refine wmf rfl ?_ | refine wnc rfl ?_ | refine wbq Try.underlying4 rfl rfl _ (.inr ⟨rfl, rfl⟩) ?_ | refine wbq Try.underlying4 rfl rfl _ (.inl ⟨rfl, rfl⟩) ?_); try dsimp only [st, List.set_cons_zero, List.set_cons_succ]) | ((first | refine AS_nil ?_ | refine AI_skip ?_ | refine AI_exit ?_); try simp only [AThen, ABlk, reduceIte, reduceCtorEq]) | ((first | refine hK _ _ ?_ | ((first | clear hK K | clear IH hK K); refine hK _ _ ?_) | ((first | clear hK K | clear IH hK K); (first | clear hK K | clear IH hK K); refine hK _ _ ?_) | ((first | clear hK K | clear IH hK K); (first | clear hK K | clear IH hK K); (first | clear hK K | clear IH hK K); refine hK _ _ ?_)); try (first | clear hK K | clear IH hK K)) | refine AI_cond_t rfl (by first | assumption | with_reducible rfl) ?_ | refine AI_cond_f rfl (by first | assumption | with_reducible rfl) ?_ | refine AS_gy rfl (by first | assumption | with_reducible rfl) ?_ | refine AS_gtn rfl (by first | assumption | with_reducible rfl) ?_ | refine AS_gfn rfl (by first | assumption | with_reducible rfl) ?_ | refine AI_block (AI_loop ?_) | refine AI_block ?_ | refine AI_ret ⟨_, rfl, ?_⟩)
      (first | refine AS_gt rfl ?_ ?_ | refine AS_gf rfl ?_ ?_ | refine AI_cond rfl ?_ ?_) <;> intro hc <;> have hc' := hc <;> try simp only [decide_eq_true_eq, decide_eq_false_iff_not, Bool.not_eq_true', Bool.not_eq_false', Bool.not_eq_true, Bool.not_eq_false, beq_iff_eq, bne_iff_ne, beq_eq_false_iff_ne, bne_eq_false_iff_eq, Int.not_lt, Int.not_le, ge_iff_le, gt_iff_lt, not_and, ne_eq, Decidable.not_not] at hc'
      all_goals
        repeat (first | refine AI_seqk fun K hK => ?_ | refine AI_reg ?_ | ((first | refine wmv rfl ?_ | refine wag rfl ?_ | refine war _ rfl rfl rfl (by omega) (by omega) ?_ | refine wbn rfl rfl rfl ?_ | refine wnt rfl ?_ | refine wex rfl rfl ?_ | refine wpt rfl (by first | assumption | with_reducible rfl) rfl ?_ | refine wpf rfl (by first | assumption | with_reducible rfl) rfl ?_ | refine wpb rfl rfl rfl ?_ | refine wmf rfl ?_ | refine wnc rfl ?_ | refine wbq Try.underlying4 rfl rfl _ (.inr ⟨rfl, rfl⟩) ?_ | refine wbq Try.underlying4 rfl rfl _ (.inl ⟨rfl, rfl⟩) ?_); try dsimp only [st, List.set_cons_zero, List.set_cons_succ]) | ((first | refine AS_nil ?_ | refine AI_skip ?_ | refine AI_exit ?_); try simp only [AThen, ABlk, reduceIte, reduceCtorEq]) | ((first | refine hK _ _ ?_ | ((first | clear hK K | clear IH hK K); refine hK _ _ ?_) | ((first | clear hK K | clear IH hK K); (first | clear hK K | clear IH hK K); refine hK _ _ ?_) | ((first | clear hK K | clear IH hK K); (first | clear hK K | clear IH hK K); (first | clear hK K | clear IH hK K); refine hK _ _ ?_)); try (first | clear hK K | clear IH hK K)) | refine AI_cond_t rfl (by first | assumption | with_reducible rfl) ?_ | refine AI_cond_f rfl (by first | assumption | with_reducible rfl) ?_ | refine AS_gy rfl (by first | assumption | with_reducible rfl) ?_ | refine AS_gtn rfl (by first | assumption | with_reducible rfl) ?_ | refine AS_gfn rfl (by first | assumption | with_reducible rfl) ?_ | refine AI_block (AI_loop ?_) | refine AI_block ?_ | refine AI_ret ⟨_, rfl, ?_⟩)
      · refine ⟨?_, rfl⟩
        simp only [oneA, AV.b.injEq]
        symm
        simp
        intro e
        exact hc' (Option.some.inj (by rw [← hy, ← hy', e]))
      · refine IH (n - 1) _ _ (by omega) ⟨i + 1, exJ rfl, by omega, by omega, rfl, ?_⟩
        rw [toNat_succ h0, List.take_add_one, List.take_add_one, heq, hy, hy', hc']
    · refine ⟨?_, rfl⟩
      have e : i.toNat = l.length := by omega
      rw [e] at heq
      rw [List.take_length, hlen, List.take_length] at heq
      simp [oneA, heq]

theorem szIntS_ac (l : List Int) (v : AV) (k : Int) (h : AH) (hR : Rd h v l) (hk : 0 ≤ k) (hk1 : k ≤ 4611686018427387904) (hl : l.length ≤ 9223372036854775807) :
    AC Try.prog 39 [v, .i .i64 k] h (fun r h' => r = .i .i64 (if k - l.length < 0 then -1 else k - l.length) ∧ h = h') := by
  refine e39 _ _ fun wf => ?_
  unfold c39
  repeat (first | refine AI_seqk fun K hK => ?_ | refine AI_reg ?_ | ((first | refine wmv rfl ?_ | refine wag rfl ?_ | refine war _ rfl rfl rfl (by omega) (by omega) ?_ | refine wbn rfl rfl rfl ?_ | refine wnt rfl ?_ | refine wex rfl rfl ?_ | refine wpt rfl (by first | assumption | with_reducible rfl) rfl ?_ | refine wpf rfl (by first | assumption | with_reducible rfl) rfl ?_ | refine wpb rfl rfl rfl ?_ | refine wmf rfl ?_ | refine wnc rfl ?_ | refine wbq Try.underlying4 rfl rfl _ (.inr ⟨rfl, rfl⟩) ?_ | refine wbq Try.underlying4 rfl rfl _ (.inl ⟨rfl, rfl⟩) ?_); try dsimp only [st, List.set_cons_zero, List.set_cons_succ]) | ((first | refine AS_nil ?_ | refine AI_skip ?_ | refine AI_exit ?_); try simp only [AThen, ABlk, reduceIte, reduceCtorEq]) | ((first | refine hK _ _ ?_ | ((first | clear hK K | clear IH hK K); refine hK _ _ ?_) | ((first | clear hK K | clear IH hK K); (first | clear hK K | clear IH hK K); refine hK _ _ ?_) | ((first | clear hK K | clear IH hK K); (first | clear hK K | clear IH hK K); (first | clear hK K | clear IH hK K); refine hK _ _ ?_)); try (first | clear hK K | clear IH hK K)) | refine AI_cond_t rfl (by first | assumption | with_reducible rfl) ?_ | refine AI_cond_f rfl (by first | assumption | with_reducible rfl) ?_ | refine AS_gy rfl (by first | assumption | with_reducible rfl) ?_ | refine AS_gtn rfl (by first | assumption | with_reducible rfl) ?_ | refine AS_gfn rfl (by first | assumption | with_reducible rfl) ?_ | refine AI_block (AI_loop ?_) | refine AI_block ?_ | refine AI_ret ⟨_, rfl, ?_⟩)
  refine AS_op (OpR_lenA Try.underlying31 rfl hR.len ?_)
  try (dsimp only [st, setL, AV.cells, List.set_cons_zero, List.set_cons_succ, List.drop_zero, List.drop_succ_cons, List.take_zero, List.take_succ_cons, Nat.zero_add, Nat.add_zero, Nat.reduceAdd, List.cons_append, List.nil_append, List.eraseIdx_cons_zero, List.eraseIdx_cons_succ])
  repeat (first | refine AI_seqk fun K hK => ?_ | refine AI_reg ?_ | ((first | refine wmv rfl ?_ | refine wag rfl ?_ | refine war _ rfl rfl rfl (by omega) (by omega) ?_ | refine wbn rfl rfl rfl ?_ | refine wnt rfl ?_ | refine wex rfl rfl ?_ | refine wpt rfl (by first | assumption | with_reducible rfl) rfl ?_ | refine wpf rfl (by first | assumption | with_reducible rfl) rfl ?_ | refine wpb rfl rfl rfl ?_ | refine wmf rfl ?_ | refine wnc rfl ?_ | refine wbq Try.underlying4 rfl rfl _ (.inr ⟨rfl, rfl⟩) ?_ | refine wbq Try.underlying4 rfl rfl _ (.inl ⟨rfl, rfl⟩) ?_); try dsimp only [st, List.set_cons_zero, List.set_cons_succ]) | ((first | refine AS_nil ?_ | refine AI_skip ?_ | refine AI_exit ?_); try simp only [AThen, ABlk, reduceIte, reduceCtorEq]) | ((first | refine hK _ _ ?_ | ((first | clear hK K | clear IH hK K); refine hK _ _ ?_) | ((first | clear hK K | clear IH hK K); (first | clear hK K | clear IH hK K); refine hK _ _ ?_) | ((first | clear hK K | clear IH hK K); (first | clear hK K | clear IH hK K); (first | clear hK K | clear IH hK K); refine hK _ _ ?_)); try (first | clear hK K | clear IH hK K)) | refine AI_cond_t rfl (by first | assumption | with_reducible rfl) ?_ | refine AI_cond_f rfl (by first | assumption | with_reducible rfl) ?_ | refine AS_gy rfl (by first | assumption | with_reducible rfl) ?_ | refine AS_gtn rfl (by first | assumption | with_reducible rfl) ?_ | refine AS_gfn rfl (by first | assumption | with_reducible rfl) ?_ | refine AI_block (AI_loop ?_) | refine AI_block ?_ | refine AI_ret ⟨_, rfl, ?_⟩)
  (first | refine AS_gt rfl ?_ ?_ | refine AS_gf rfl ?_ ?_ | refine AI_cond rfl ?_ ?_) <;> intro hc <;> have hc' := hc <;> try simp only [decide_eq_true_eq, decide_eq_false_iff_not, Bool.not_eq_true', Bool.not_eq_false', Bool.not_eq_true, Bool.not_eq_false, beq_iff_eq, bne_iff_ne, beq_eq_false_iff_ne, bne_eq_false_iff_eq, Int.not_lt, Int.not_le, ge_iff_le, gt_iff_lt, not_and, ne_eq, Decidable.not_not] at hc'
  all_goals
    repeat (first | refine AI_seqk fun K hK => ?_ | refine AI_reg ?_ | ((first | refine wmv rfl ?_ | refine wag rfl ?_ | refine war _ rfl rfl rfl (by omega) (by omega) ?_ | refine wbn rfl rfl rfl ?_ | refine wnt rfl ?_ | refine wex rfl rfl ?_ | refine wpt rfl (by first | assumption | with_reducible rfl) rfl ?_ | refine wpf rfl (by first | assumption | with_reducible rfl) rfl ?_ | refine wpb rfl rfl rfl ?_ | refine wmf rfl ?_ | refine wnc rfl ?_ | refine wbq Try.underlying4 rfl rfl _ (.inr ⟨rfl, rfl⟩) ?_ | refine wbq Try.underlying4 rfl rfl _ (.inl ⟨rfl, rfl⟩) ?_); try dsimp only [st, List.set_cons_zero, List.set_cons_succ]) | ((first | refine AS_nil ?_ | refine AI_skip ?_ | refine AI_exit ?_); try simp only [AThen, ABlk, reduceIte, reduceCtorEq]) | ((first | refine hK _ _ ?_ | ((first | clear hK K | clear IH hK K); refine hK _ _ ?_) | ((first | clear hK K | clear IH hK K); (first | clear hK K | clear IH hK K); refine hK _ _ ?_) | ((first | clear hK K | clear IH hK K); (first | clear hK K | clear IH hK K); (first | clear hK K | clear IH hK K); refine hK _ _ ?_)); try (first | clear hK K | clear IH hK K)) | refine AI_cond_t rfl (by first | assumption | with_reducible rfl) ?_ | refine AI_cond_f rfl (by first | assumption | with_reducible rfl) ?_ | refine AS_gy rfl (by first | assumption | with_reducible rfl) ?_ | refine AS_gtn rfl (by first | assumption | with_reducible rfl) ?_ | refine AS_gfn rfl (by first | assumption | with_reducible rfl) ?_ | refine AI_block (AI_loop ?_) | refine AI_block ?_ | refine AI_ret ⟨_, rfl, ?_⟩)
  · exact ⟨by rw [if_pos hc']; rfl, rfl⟩
  · exact ⟨by rw [if_neg (by omega)]; rfl, rfl⟩

def totL : List (List Int) → Int
  | [] => 0
  | l :: ll => l.length + totL ll

theorem totL_snoc (ll : List (List Int)) (l : List Int) : totL (ll ++ [l]) = totL ll + l.length := by
  induction ll with
  | nil => simp [totL]
  | cons x ll ih => simp [totL, ih]; omega

theorem totL_nn : ∀ ll : List (List Int), 0 ≤ totL ll
  | [] => by simp [totL]
  | l :: ll => by have := totL_nn ll; simp only [totL]; omega

theorem take_snoc {α : Type} {l : List α} {i : Nat} {y : α} (hy : l[i]? = some y) : l.take (i + 1) = l.take i ++ [y] := by rw [List.take_add_one, hy]; rfl

theorem szIntSS_ac (ll : List (List Int)) (v : AV) (vs : List AV) (k : Int) (h : AH) (hR : RdSS h v ll vs) (hk0 : 0 ≤ k) (hk1 : k ≤ 1048576) (hll : ll.length ≤ 9223372036854775807) (hl : ∀ l ∈ ll, l.length ≤ 9223372036854775807) :
    AC Try.prog 10 [v, .i .i64 k] h (fun r h' => (∃ z, r = .i .i64 z ∧ (0 ≤ z → ll.length + totL ll ≤ k)) ∧ h = h') := by
  refine e10 _ _ fun wf => ?_
  unfold c10
  repeat (first | refine AI_seqk fun K hK => ?_ | refine AI_reg ?_ | ((first | refine wmv rfl ?_ | refine wag rfl ?_ | refine war _ rfl rfl rfl (by omega) (by omega) ?_ | refine wbn rfl rfl rfl ?_ | refine wnt rfl ?_ | refine wex rfl rfl ?_ | refine wpt rfl (by first | assumption | with_reducible rfl) rfl ?_ | refine wpf rfl (by first | assumption | with_reducible rfl) rfl ?_ | refine wpb rfl rfl rfl ?_ | refine wmf rfl ?_ | refine wnc rfl ?_ | refine wbq Try.underlying4 rfl rfl _ (.inr ⟨rfl, rfl⟩) ?_ | refine wbq Try.underlying4 rfl rfl _ (.inl ⟨rfl, rfl⟩) ?_); try dsimp only [st, List.set_cons_zero, List.set_cons_succ]) | ((first | refine AS_nil ?_ | refine AI_skip ?_ | refine AI_exit ?_); try simp only [AThen, ABlk, reduceIte, reduceCtorEq]) | ((first | refine hK _ _ ?_ | ((first | clear hK K | clear IH hK K); refine hK _ _ ?_) | ((first | clear hK K | clear IH hK K); (first | clear hK K | clear IH hK K); refine hK _ _ ?_) | ((first | clear hK K | clear IH hK K); (first | clear hK K | clear IH hK K); (first | clear hK K | clear IH hK K); refine hK _ _ ?_)); try (first | clear hK K | clear IH hK K)) | refine AI_cond_t rfl (by first | assumption | with_reducible rfl) ?_ | refine AI_cond_f rfl (by first | assumption | with_reducible rfl) ?_ | refine AS_gy rfl (by first | assumption | with_reducible rfl) ?_ | refine AS_gtn rfl (by first | assumption | with_reducible rfl) ?_ | refine AS_gfn rfl (by first | assumption | with_reducible rfl) ?_ | refine AI_block (AI_loop ?_) | refine AI_block ?_ | refine AI_ret ⟨_, rfl, ?_⟩)
  refine AS_op (OpR_lenA Try.underlying22 rfl (by rw [hR.outer.len, hR.len]) ?_)
  try (dsimp only [st, setL, AV.cells, List.set_cons_zero, List.set_cons_succ, List.drop_zero, List.drop_succ_cons, List.take_zero, List.take_succ_cons, Nat.zero_add, Nat.add_zero, Nat.reduceAdd, List.cons_append, List.nil_append, List.eraseIdx_cons_zero, List.eraseIdx_cons_succ])
  repeat (first | refine AI_seqk fun K hK => ?_ | refine AI_reg ?_ | ((first | refine wmv rfl ?_ | refine wag rfl ?_ | refine war _ rfl rfl rfl (by omega) (by omega) ?_ | refine wbn rfl rfl rfl ?_ | refine wnt rfl ?_ | refine wex rfl rfl ?_ | refine wpt rfl (by first | assumption | with_reducible rfl) rfl ?_ | refine wpf rfl (by first | assumption | with_reducible rfl) rfl ?_ | refine wpb rfl rfl rfl ?_ | refine wmf rfl ?_ | refine wnc rfl ?_ | refine wbq Try.underlying4 rfl rfl _ (.inr ⟨rfl, rfl⟩) ?_ | refine wbq Try.underlying4 rfl rfl _ (.inl ⟨rfl, rfl⟩) ?_); try dsimp only [st, List.set_cons_zero, List.set_cons_succ]) | ((first | refine AS_nil ?_ | refine AI_skip ?_ | refine AI_exit ?_); try simp only [AThen, ABlk, reduceIte, reduceCtorEq]) | ((first | refine hK _ _ ?_ | ((first | clear hK K | clear IH hK K); refine hK _ _ ?_) | ((first | clear hK K | clear IH hK K); (first | clear hK K | clear IH hK K); refine hK _ _ ?_) | ((first | clear hK K | clear IH hK K); (first | clear hK K | clear IH hK K); (first | clear hK K | clear IH hK K); refine hK _ _ ?_)); try (first | clear hK K | clear IH hK K)) | refine AI_cond_t rfl (by first | assumption | with_reducible rfl) ?_ | refine AI_cond_f rfl (by first | assumption | with_reducible rfl) ?_ | refine AS_gy rfl (by first | assumption | with_reducible rfl) ?_ | refine AS_gtn rfl (by first | assumption | with_reducible rfl) ?_ | refine AS_gfn rfl (by first | assumption | with_reducible rfl) ?_ | refine AI_block (AI_loop ?_) | refine AI_block ?_ | refine AI_ret ⟨_, rfl, ?_⟩)
  (first | refine AS_gt rfl ?_ ?_ | refine AS_gf rfl ?_ ?_ | refine AI_cond rfl ?_ ?_) <;> intro hc <;> have hc' := hc <;> try simp only [decide_eq_true_eq, decide_eq_false_iff_not, Bool.not_eq_true', Bool.not_eq_false', Bool.not_eq_true, Bool.not_eq_false, beq_iff_eq, bne_iff_ne, beq_eq_false_iff_ne, bne_eq_false_iff_eq, Int.not_lt, Int.not_le, ge_iff_le, gt_iff_lt, not_and, ne_eq, Decidable.not_not] at hc'
  all_goals
    repeat (first | refine AI_seqk fun K hK => ?_ | refine AI_reg ?_ | ((first | refine wmv rfl ?_ | refine wag rfl ?_ | refine war _ rfl rfl rfl (by omega) (by omega) ?_ | refine wbn rfl rfl rfl ?_ | refine wnt rfl ?_ | refine wex rfl rfl ?_ | refine wpt rfl (by first | assumption | with_reducible rfl) rfl ?_ | refine wpf rfl (by first | assumption | with_reducible rfl) rfl ?_ | refine wpb rfl rfl rfl ?_ | refine wmf rfl ?_ | refine wnc rfl ?_ | refine wbq Try.underlying4 rfl rfl _ (.inr ⟨rfl, rfl⟩) ?_ | refine wbq Try.underlying4 rfl rfl _ (.inl ⟨rfl, rfl⟩) ?_); try dsimp only [st, List.set_cons_zero, List.set_cons_succ]) | ((first | refine AS_nil ?_ | refine AI_skip ?_ | refine AI_exit ?_); try simp only [AThen, ABlk, reduceIte, reduceCtorEq]) | ((first | refine hK _ _ ?_ | ((first | clear hK K | clear IH hK K); refine hK _ _ ?_) | ((first | clear hK K | clear IH hK K); (first | clear hK K | clear IH hK K); refine hK _ _ ?_) | ((first | clear hK K | clear IH hK K); (first | clear hK K | clear IH hK K); (first | clear hK K | clear IH hK K); refine hK _ _ ?_)); try (first | clear hK K | clear IH hK K)) | refine AI_cond_t rfl (by first | assumption | with_reducible rfl) ?_ | refine AI_cond_f rfl (by first | assumption | with_reducible rfl) ?_ | refine AS_gy rfl (by first | assumption | with_reducible rfl) ?_ | refine AS_gtn rfl (by first | assumption | with_reducible rfl) ?_ | refine AS_gfn rfl (by first | assumption | with_reducible rfl) ?_ | refine AI_block (AI_loop ?_) | refine AI_block ?_ | refine AI_ret ⟨_, rfl, ?_⟩)
  · exact ⟨⟨-1, rfl, fun e => by omega⟩, rfl⟩
  · refine AIL_ind (fun (n : Nat) a h' => ∃ (i kk : Int), (∃ r : Nat → AV, a = [v, .i .i64 kk, r 2, r 3, .i .i64 0, .i .i64 i, r 6, r 7, r 8, r 9, r 10, r 11, r 12, r 13, r 14, r 15, r 16, r 17, r 18, r 19, r 20, r 21, r 22, r 23, r 24, r 25, r 26]) ∧ 0 ≤ kk ∧ kk = k - ll.length - totL (ll.take i.toNat) ∧ 0 ≤ i ∧ i + n = ll.length ∧ h = h')
      ?_ ll.length _ _ ⟨0, _, exJ rfl, hc', by simp [totL], by omega, by omega, rfl⟩
    rintro n a h' ⟨i, kk, ⟨r, rfl⟩, hkk0, hkk, h0', hn, rfl⟩ IH
    have hnn1 := totL_nn (ll.take i.toNat)
    repeat (first | refine AI_seqk fun K hK => ?_ | refine AI_reg ?_ | ((first | refine wmv rfl ?_ | refine wag rfl ?_ | refine war _ rfl rfl rfl (by omega) (by omega) ?_ | refine wbn rfl rfl rfl ?_ | refine wnt rfl ?_ | refine wex rfl rfl ?_ | refine wpt rfl (by first | assumption | with_reducible rfl) rfl ?_ | refine wpf rfl (by first | assumption | with_reducible rfl) rfl ?_ | refine wpb rfl rfl rfl ?_ | refine wmf rfl ?_ | refine wnc rfl ?_ | refine wbq Try.underlying4 rfl rfl _ (.inr ⟨rfl, rfl⟩) ?_ | refine wbq Try.underlying4 rfl rfl _ (.inl ⟨rfl, rfl⟩) ?_); try dsimp only [st, List.set_cons_zero, List.set_cons_succ]) | ((first | refine AS_nil ?_ | refine AI_skip ?_ | refine AI_exit ?_); try simp only [AThen, ABlk, reduceIte, reduceCtorEq]) | ((first | refine hK _ _ ?_ | ((first | clear hK K | clear IH hK K); refine hK _ _ ?_) | ((first | clear hK K | clear IH hK K); (first | clear hK K | clear IH hK K); refine hK _ _ ?_) | ((first | clear hK K | clear IH hK K); (first | clear hK K | clear IH hK K); (first | clear hK K | clear IH hK K); refine hK _ _ ?_)); try (first | clear hK K | clear IH hK K)) | refine AI_cond_t rfl (by first | assumption | with_reducible rfl) ?_ | refine AI_cond_f rfl (by first | assumption | with_reducible rfl) ?_ | refine AS_gy rfl (by first | assumption | with_reducible rfl) ?_ | refine AS_gtn rfl (by first | assumption | with_reducible rfl) ?_ | refine AS_gfn rfl (by first | assumption | with_reducible rfl) ?_ | refine AI_block (AI_loop ?_) | refine AI_block ?_ | refine AI_ret ⟨_, rfl, ?_⟩)
    refine AS_op (OpR_lenA Try.underlying22 rfl (by rw [hR.outer.len, hR.len]) ?_)
    try (dsimp only [st, setL, AV.cells, List.set_cons_zero, List.set_cons_succ, List.drop_zero, List.drop_succ_cons, List.take_zero, List.take_succ_cons, Nat.zero_add, Nat.add_zero, Nat.reduceAdd, List.cons_append, List.nil_append, List.eraseIdx_cons_zero, List.eraseIdx_cons_succ])
    repeat (first | refine AI_seqk fun K hK => ?_ | refine AI_reg ?_ | ((first | refine wmv rfl ?_ | refine wag rfl ?_ | refine war _ rfl rfl rfl (by omega) (by omega) ?_ | refine wbn rfl rfl rfl ?_ | refine wnt rfl ?_ | refine wex rfl rfl ?_ | refine wpt rfl (by first | assumption | with_reducible rfl) rfl ?_ | refine wpf rfl (by first | assumption | with_reducible rfl) rfl ?_ | refine wpb rfl rfl rfl ?_ | refine wmf rfl ?_ | refine wnc rfl ?_ | refine wbq Try.underlying4 rfl rfl _ (.inr ⟨rfl, rfl⟩) ?_ | refine wbq Try.underlying4 rfl rfl _ (.inl ⟨rfl, rfl⟩) ?_); try dsimp only [st, List.set_cons_zero, List.set_cons_succ]) | ((first | refine AS_nil ?_ | refine AI_skip ?_ | refine AI_exit ?_); try simp only [AThen, ABlk, reduceIte, reduceCtorEq]) | ((first | refine hK _ _ ?_ | ((first | clear hK K | clear IH hK K); refine hK _ _ ?_) | ((first | clear hK K | clear IH hK K); (first | clear hK K | clear IH hK K); refine hK _ _ ?_) | ((first | clear hK K | clear IH hK K); (first | clear hK K | clear IH hK K); (first | clear hK K | clear IH hK K); refine hK _ _ ?_)); try (first | clear hK K | clear IH hK K)) | refine AI_cond_t rfl (by first | assumption | with_reducible rfl) ?_ | refine AI_cond_f rfl (by first | assumption | with_reducible rfl) ?_ | refine AS_gy rfl (by first | assumption | with_reducible rfl) ?_ | refine AS_gtn rfl (by first | assumption | with_reducible rfl) ?_ | refine AS_gfn rfl (by first | assumption | with_reducible rfl) ?_ | refine AI_block (AI_loop ?_) | refine AI_block ?_ | refine AI_ret ⟨_, rfl, ?_⟩)
    (first | refine AS_gt rfl ?_ ?_ | refine AS_gf rfl ?_ ?_ | refine AI_cond rfl ?_ ?_) <;> intro hc <;> have hc' := hc <;> try simp only [decide_eq_true_eq, decide_eq_false_iff_not, Bool.not_eq_true', Bool.not_eq_false', Bool.not_eq_true, Bool.not_eq_false, beq_iff_eq, bne_iff_ne, beq_eq_false_iff_ne, bne_eq_false_iff_eq, Int.not_lt, Int.not_le, ge_iff_le, gt_iff_lt, not_and, ne_eq, Decidable.not_not] at hc'
    all_goals
      repeat (first | refine AI_seqk fun K hK => ?_ | refine AI_reg ?_ | ((first | refine wmv rfl ?_ | refine wag rfl ?_ | refine war _ rfl rfl rfl (by omega) (by omega) ?_ | refine wbn rfl rfl rfl ?_ | refine wnt rfl ?_ | refine wex rfl rfl ?_ | refine wpt rfl (by first | assumption | with_reducible rfl) rfl ?_ | refine wpf rfl (by first | assumption | with_reducible rfl) rfl ?_ | refine wpb rfl rfl rfl ?_ | refine wmf rfl ?_ | refine wnc rfl ?_ | refine wbq Try.underlying4 rfl rfl _ (.inr ⟨rfl, rfl⟩) ?_ | refine wbq Try.underlying4 rfl rfl _ (.inl ⟨rfl, rfl⟩) ?_); try dsimp only [st, List.set_cons_zero, List.set_cons_succ]) | ((first | refine AS_nil ?_ | refine AI_skip ?_ | refine AI_exit ?_); try simp only [AThen, ABlk, reduceIte, reduceCtorEq]) | ((first | refine hK _ _ ?_ | ((first | clear hK K | clear IH hK K); refine hK _ _ ?_) | ((first | clear hK K | clear IH hK K); (first | clear hK K | clear IH hK K); refine hK _ _ ?_) | ((first | clear hK K | clear IH hK K); (first | clear hK K | clear IH hK K); (first | clear hK K | clear IH hK K); refine hK _ _ ?_)); try (first | clear hK K | clear IH hK K)) | refine AI_cond_t rfl (by first | assumption | with_reducible rfl) ?_ | refine AI_cond_f rfl (by first | assumption | with_reducible rfl) ?_ | refine AS_gy rfl (by first | assumption | with_reducible rfl) ?_ | refine AS_gtn rfl (by first | assumption | with_reducible rfl) ?_ | refine AS_gfn rfl (by first | assumption | with_reducible rfl) ?_ | refine AI_block (AI_loop ?_) | refine AI_block ?_ | refine AI_ret ⟨_, rfl, ?_⟩)
    · obtain ⟨l, hl', hm, hd⟩ := drop_at (l := ll) h0' (by omega)
      obtain ⟨u, hu, hrd⟩ := hR.at_ hl'
      refine AS_op (OpR_idx Try.underlying22 sz31 rfl rfl hR.outer (fun _ => rfl) h0' hu fun b o hrow => ?_)
      try (dsimp only [st, setL, AV.cells, List.set_cons_zero, List.set_cons_succ, List.drop_zero, List.drop_succ_cons, List.take_zero, List.take_succ_cons, Nat.zero_add, Nat.add_zero, Nat.reduceAdd, List.cons_append, List.nil_append, List.eraseIdx_cons_zero, List.eraseIdx_cons_succ])
      repeat (first | refine AI_seqk fun K hK => ?_ | refine AI_reg ?_ | ((first | refine wmv rfl ?_ | refine wag rfl ?_ | refine war _ rfl rfl rfl (by omega) (by omega) ?_ | refine wbn rfl rfl rfl ?_ | refine wnt rfl ?_ | refine wex rfl rfl ?_ | refine wpt rfl (by first | assumption | with_reducible rfl) rfl ?_ | refine wpf rfl (by first | assumption | with_reducible rfl) rfl ?_ | refine wpb rfl rfl rfl ?_ | refine wmf rfl ?_ | refine wnc rfl ?_ | refine wbq Try.underlying4 rfl rfl _ (.inr ⟨rfl, rfl⟩) ?_ | refine wbq Try.underlying4 rfl rfl _ (.inl ⟨rfl, rfl⟩) ?_); try dsimp only [st, List.set_cons_zero, List.set_cons_succ]) | ((first | refine AS_nil ?_ | refine AI_skip ?_ | refine AI_exit ?_); try simp only [AThen, ABlk, reduceIte, reduceCtorEq]) | ((first | refine hK _ _ ?_ | ((first | clear hK K | clear IH hK K); refine hK _ _ ?_) | ((first | clear hK K | clear IH hK K); (first | clear hK K | clear IH hK K); refine hK _ _ ?_) | ((first | clear hK K | clear IH hK K); (first | clear hK K | clear IH hK K); (first | clear hK K | clear IH hK K); refine hK _ _ ?_)); try (first | clear hK K | clear IH hK K)) | refine AI_cond_t rfl (by first | assumption | with_reducible rfl) ?_ | refine AI_cond_f rfl (by first | assumption | with_reducible rfl) ?_ | refine AS_gy rfl (by first | assumption | with_reducible rfl) ?_ | refine AS_gtn rfl (by first | assumption | with_reducible rfl) ?_ | refine AS_gfn rfl (by first | assumption | with_reducible rfl) ?_ | refine AI_block (AI_loop ?_) | refine AI_block ?_ | refine AI_ret ⟨_, rfl, ?_⟩)
      refine AS_op (OpR_load rfl (loadA_1 ag31 (cell_row hrow)) ?_)
      try (dsimp only [st, setL, AV.cells, List.set_cons_zero, List.set_cons_succ, List.drop_zero, List.drop_succ_cons, List.take_zero, List.take_succ_cons, Nat.zero_add, Nat.add_zero, Nat.reduceAdd, List.cons_append, List.nil_append, List.eraseIdx_cons_zero, List.eraseIdx_cons_succ])
      repeat (first | refine AI_seqk fun K hK => ?_ | refine AI_reg ?_ | ((first | refine wmv rfl ?_ | refine wag rfl ?_ | refine war _ rfl rfl rfl (by omega) (by omega) ?_ | refine wbn rfl rfl rfl ?_ | refine wnt rfl ?_ | refine wex rfl rfl ?_ | refine wpt rfl (by first | assumption | with_reducible rfl) rfl ?_ | refine wpf rfl (by first | assumption | with_reducible rfl) rfl ?_ | refine wpb rfl rfl rfl ?_ | refine wmf rfl ?_ | refine wnc rfl ?_ | refine wbq Try.underlying4 rfl rfl _ (.inr ⟨rfl, rfl⟩) ?_ | refine wbq Try.underlying4 rfl rfl _ (.inl ⟨rfl, rfl⟩) ?_); try dsimp only [st, List.set_cons_zero, List.set_cons_succ]) | ((first | refine AS_nil ?_ | refine AI_skip ?_ | refine AI_exit ?_); try simp only [AThen, ABlk, reduceIte, reduceCtorEq]) | ((first | refine hK _ _ ?_ | ((first | clear hK K | clear IH hK K); refine hK _ _ ?_) | ((first | clear hK K | clear IH hK K); (first | clear hK K | clear IH hK K); refine hK _ _ ?_) | ((first | clear hK K | clear IH hK K); (first | clear hK K | clear IH hK K); (first | clear hK K | clear IH hK K); refine hK _ _ ?_)); try (first | clear hK K | clear IH hK K)) | refine AI_cond_t rfl (by first | assumption | with_reducible rfl) ?_ | refine AI_cond_f rfl (by first | assumption | with_reducible rfl) ?_ | refine AS_gy rfl (by first | assumption | with_reducible rfl) ?_ | refine AS_gtn rfl (by first | assumption | with_reducible rfl) ?_ | refine AS_gfn rfl (by first | assumption | with_reducible rfl) ?_ | refine AI_block (AI_loop ?_) | refine AI_block ?_ | refine AI_ret ⟨_, rfl, ?_⟩)
      refine AS_op (OpR_call rfl rfl (szIntS_ac l u kk _ hrd (by omega) (by omega) (hl l hm)) ?_)
      rintro _ _ wf2 ⟨rfl, rfl⟩
      try (dsimp only [st, setL, AV.cells, List.set_cons_zero, List.set_cons_succ, List.drop_zero, List.drop_succ_cons, List.take_zero, List.take_succ_cons, Nat.zero_add, Nat.add_zero, Nat.reduceAdd, List.cons_append, List.nil_append, List.eraseIdx_cons_zero, List.eraseIdx_cons_succ])
      repeat (first | refine AI_seqk fun K hK => ?_ | refine AI_reg ?_ | ((first | refine wmv rfl ?_ | refine wag rfl ?_ | refine war _ rfl rfl rfl (by omega) (by omega) ?_ | refine wbn rfl rfl rfl ?_ | refine wnt rfl ?_ | refine wex rfl rfl ?_ | refine wpt rfl (by first | assumption | with_reducible rfl) rfl ?_ | refine wpf rfl (by first | assumption | with_reducible rfl) rfl ?_ | refine wpb rfl rfl rfl ?_ | refine wmf rfl ?_ | refine wnc rfl ?_ | refine wbq Try.underlying4 rfl rfl _ (.inr ⟨rfl, rfl⟩) ?_ | refine wbq Try.underlying4 rfl rfl _ (.inl ⟨rfl, rfl⟩) ?_); try dsimp only [st, List.set_cons_zero, List.set_cons_succ]) | ((first | refine AS_nil ?_ | refine AI_skip ?_ | refine AI_exit ?_); try simp only [AThen, ABlk, reduceIte, reduceCtorEq]) | ((first | refine hK _ _ ?_ | ((first | clear hK K | clear IH hK K); refine hK _ _ ?_) | ((first | clear hK K | clear IH hK K); (first | clear hK K | clear IH hK K); refine hK _ _ ?_) | ((first | clear hK K | clear IH hK K); (first | clear hK K | clear IH hK K); (first | clear hK K | clear IH hK K); refine hK _ _ ?_)); try (first | clear hK K | clear IH hK K)) | refine AI_cond_t rfl (by first | assumption | with_reducible rfl) ?_ | refine AI_cond_f rfl (by first | assumption | with_reducible rfl) ?_ | refine AS_gy rfl (by first | assumption | with_reducible rfl) ?_ | refine AS_gtn rfl (by first | assumption | with_reducible rfl) ?_ | refine AS_gfn rfl (by first | assumption | with_reducible rfl) ?_ | refine AI_block (AI_loop ?_) | refine AI_block ?_ | refine AI_ret ⟨_, rfl, ?_⟩)
      (first | refine AS_gt rfl ?_ ?_ | refine AS_gf rfl ?_ ?_ | refine AI_cond rfl ?_ ?_) <;> intro hc <;> have hc' := hc <;> try simp only [decide_eq_true_eq, decide_eq_false_iff_not, Bool.not_eq_true', Bool.not_eq_false', Bool.not_eq_true, Bool.not_eq_false, beq_iff_eq, bne_iff_ne, beq_eq_false_iff_ne, bne_eq_false_iff_eq, Int.not_lt, Int.not_le, ge_iff_le, gt_iff_lt, not_and, ne_eq, Decidable.not_not] at hc'
      all_goals
        repeat (first | refine AI_seqk fun K hK => ?_ | refine AI_reg ?_ | ((first | refine wmv rfl ?_ | refine wag rfl ?_ | refine war _ rfl rfl rfl (by omega) (by omega) ?_ | refine wbn rfl rfl rfl ?_ | refine wnt rfl ?_ | refine wex rfl rfl ?_ | refine wpt rfl (by first | assumption | with_reducible rfl) rfl ?_ | refine wpf rfl (by first | assumption | with_reducible rfl) rfl ?_ | refine wpb rfl rfl rfl ?_ | refine wmf rfl ?_ | refine wnc rfl ?_ | refine wbq Try.underlying4 rfl rfl _ (.inr ⟨rfl, rfl⟩) ?_ | refine wbq Try.underlying4 rfl rfl _ (.inl ⟨rfl, rfl⟩) ?_); try dsimp only [st, List.set_cons_zero, List.set_cons_succ]) | ((first | refine AS_nil ?_ | refine AI_skip ?_ | refine AI_exit ?_); try simp only [AThen, ABlk, reduceIte, reduceCtorEq]) | ((first | refine hK _ _ ?_ | ((first | clear hK K | clear IH hK K); refine hK _ _ ?_) | ((first | clear hK K | clear IH hK K); (first | clear hK K | clear IH hK K); refine hK _ _ ?_) | ((first | clear hK K | clear IH hK K); (first | clear hK K | clear IH hK K); (first | clear hK K | clear IH hK K); refine hK _ _ ?_)); try (first | clear hK K | clear IH hK K)) | refine AI_cond_t rfl (by first | assumption | with_reducible rfl) ?_ | refine AI_cond_f rfl (by first | assumption | with_reducible rfl) ?_ | refine AS_gy rfl (by first | assumption | with_reducible rfl) ?_ | refine AS_gtn rfl (by first | assumption | with_reducible rfl) ?_ | refine AS_gfn rfl (by first | assumption | with_reducible rfl) ?_ | refine AI_block (AI_loop ?_) | refine AI_block ?_ | refine AI_ret ⟨_, rfl, ?_⟩)
      · exact ⟨⟨-1, rfl, fun e => by omega⟩, rfl⟩
      · have hlt : ¬ (kk - (l.length : Int) < 0) := fun e => by rw [if_pos e] at hc'; omega
        rw [if_neg hlt]
        refine IH (n - 1) _ _ (by omega) ⟨i + 1, _, exJ rfl, by omega, ?_, by omega, by omega, rfl⟩
        rw [toNat_succ h0', take_snoc hl', totL_snoc, hkk]
        omega
    · have e : i.toNat = ll.length := by omega
      rw [e, List.take_length] at hkk
      exact ⟨⟨_, rfl, fun _ => by omega⟩, rfl⟩

theorem eqIntSS_ac (ll ll' : List (List Int)) (v v' : AV) (vs vs' : List AV) (h : AH) (hR : RdSS h v ll vs) (hR' : RdSS h v' ll' vs') (hll : ll.length ≤ 4611686018427387904) (hl : ∀ l ∈ ll, l.length ≤ 4611686018427387904) :
    AC Try.prog 14 [v, v'] h (fun r h' => r = .b (decide (ll = ll')) ∧ h = h') := by
  refine e14 _ _ fun wf => ?_
  unfold c14
  repeat (first | refine AI_seqk fun K hK => ?_ | refine AI_reg ?_ | ((first | refine wmv rfl ?_ | refine wag rfl ?_ | refine war _ rfl rfl rfl (by omega) (by omega) ?_ | refine wbn rfl rfl rfl ?_ | refine wnt rfl ?_ | refine wex rfl rfl ?_ | refine wpt rfl (by first | assumption | with_reducible rfl) rfl ?_ | refine wpf rfl (by first | assumption | with_reducible rfl) rfl ?_ | refine wpb rfl rfl rfl ?_ | refine wmf rfl ?_ | refine wnc rfl ?_ | refine wbq Try.underlying4 rfl rfl _ (.inr ⟨rfl, rfl⟩) ?_ | refine wbq Try.underlying4 rfl rfl _ (.inl ⟨rfl, rfl⟩) ?_); try dsimp only [st, List.set_cons_zero, List.set_cons_succ]) | ((first | refine AS_nil ?_ | refine AI_skip ?_ | refine AI_exit ?_); try simp only [AThen, ABlk, reduceIte, reduceCtorEq]) | ((first | refine hK _ _ ?_ | ((first | clear hK K | clear IH hK K); refine hK _ _ ?_) | ((first | clear hK K | clear IH hK K); (first | clear hK K | clear IH hK K); refine hK _ _ ?_) | ((first | clear hK K | clear IH hK K); (first | clear hK K | clear IH hK K); (first | clear hK K | clear IH hK K); refine hK _ _ ?_)); try (first | clear hK K | clear IH hK K)) | refine AI_cond_t rfl (by first | assumption | with_reducible rfl) ?_ | refine AI_cond_f rfl (by first | assumption | with_reducible rfl) ?_ | refine AS_gy rfl (by first | assumption | with_reducible rfl) ?_ | refine AS_gtn rfl (by first | assumption | with_reducible rfl) ?_ | refine AS_gfn rfl (by first | assumption | with_reducible rfl) ?_ | refine AI_block (AI_loop ?_) | refine AI_block ?_ | refine AI_ret ⟨_, rfl, ?_⟩)
  refine AS_op (OpR_lenA Try.underlying22 rfl (by rw [hR.outer.len, hR.len]) ?_)
  try (dsimp only [st, setL, AV.cells, List.set_cons_zero, List.set_cons_succ, List.drop_zero, List.drop_succ_cons, List.take_zero, List.take_succ_cons, Nat.zero_add, Nat.add_zero, Nat.reduceAdd, List.cons_append, List.nil_append, List.eraseIdx_cons_zero, List.eraseIdx_cons_succ])
  repeat (first | refine AI_seqk fun K hK => ?_ | refine AI_reg ?_ | ((first | refine wmv rfl ?_ | refine wag rfl ?_ | refine war _ rfl rfl rfl (by omega) (by omega) ?_ | refine wbn rfl rfl rfl ?_ | refine wnt rfl ?_ | refine wex rfl rfl ?_ | refine wpt rfl (by first | assumption | with_reducible rfl) rfl ?_ | refine wpf rfl (by first | assumption | with_reducible rfl) rfl ?_ | refine wpb rfl rfl rfl ?_ | refine wmf rfl ?_ | refine wnc rfl ?_ | refine wbq Try.underlying4 rfl rfl _ (.inr ⟨rfl, rfl⟩) ?_ | refine wbq Try.underlying4 rfl rfl _ (.inl ⟨rfl, rfl⟩) ?_); try dsimp only [st, List.set_cons_zero, List.set_cons_succ]) | ((first | refine AS_nil ?_ | refine AI_skip ?_ | refine AI_exit ?_); try simp only [AThen, ABlk, reduceIte, reduceCtorEq]) | ((first | refine hK _ _ ?_ | ((first | clear hK K | clear IH hK K); refine hK _ _ ?_) | ((first | clear hK K | clear IH hK K); (first | clear hK K | clear IH hK K); refine hK _ _ ?_) | ((first | clear hK K | clear IH hK K); (first | clear hK K | clear IH hK K); (first | clear hK K | clear IH hK K); refine hK _ _ ?_)); try (first | clear hK K | clear IH hK K)) | refine AI_cond_t rfl (by first | assumption | with_reducible rfl) ?_ | refine AI_cond_f rfl (by first | assumption | with_reducible rfl) ?_ | refine AS_gy rfl (by first | assumption | with_reducible rfl) ?_ | refine AS_gtn rfl (by first | assumption | with_reducible rfl) ?_ | refine AS_gfn rfl (by first | assumption | with_reducible rfl) ?_ | refine AI_block (AI_loop ?_) | refine AI_block ?_ | refine AI_ret ⟨_, rfl, ?_⟩)
  refine AS_op (OpR_lenA Try.underlying22 rfl (by rw [hR'.outer.len, hR'.len]) ?_)
  try (dsimp only [st, setL, AV.cells, List.set_cons_zero, List.set_cons_succ, List.drop_zero, List.drop_succ_cons, List.take_zero, List.take_succ_cons, Nat.zero_add, Nat.add_zero, Nat.reduceAdd, List.cons_append, List.nil_append, List.eraseIdx_cons_zero, List.eraseIdx_cons_succ])
  repeat (first | refine AI_seqk fun K hK => ?_ | refine AI_reg ?_ | ((first | refine wmv rfl ?_ | refine wag rfl ?_ | refine war _ rfl rfl rfl (by omega) (by omega) ?_ | refine wbn rfl rfl rfl ?_ | refine wnt rfl ?_ | refine wex rfl rfl ?_ | refine wpt rfl (by first | assumption | with_reducible rfl) rfl ?_ | refine wpf rfl (by first | assumption | with_reducible rfl) rfl ?_ | refine wpb rfl rfl rfl ?_ | refine wmf rfl ?_ | refine wnc rfl ?_ | refine wbq Try.underlying4 rfl rfl _ (.inr ⟨rfl, rfl⟩) ?_ | refine wbq Try.underlying4 rfl rfl _ (.inl ⟨rfl, rfl⟩) ?_); try dsimp only [st, List.set_cons_zero, List.set_cons_succ]) | ((first | refine AS_nil ?_ | refine AI_skip ?_ | refine AI_exit ?_); try simp only [AThen, ABlk, reduceIte, reduceCtorEq]) | ((first | refine hK _ _ ?_ | ((first | clear hK K | clear IH hK K); refine hK _ _ ?_) | ((first | clear hK K | clear IH hK K); (first | clear hK K | clear IH hK K); refine hK _ _ ?_) | ((first | clear hK K | clear IH hK K); (first | clear hK K | clear IH hK K); (first | clear hK K | clear IH hK K); refine hK _ _ ?_)); try (first | clear hK K | clear IH hK K)) | refine AI_cond_t rfl (by first | assumption | with_reducible rfl) ?_ | refine AI_cond_f rfl (by first | assumption | with_reducible rfl) ?_ | refine AS_gy rfl (by first | assumption | with_reducible rfl) ?_ | refine AS_gtn rfl (by first | assumption | with_reducible rfl) ?_ | refine AS_gfn rfl (by first | assumption | with_reducible rfl) ?_ | refine AI_block (AI_loop ?_) | refine AI_block ?_ | refine AI_ret ⟨_, rfl, ?_⟩)
  (first | refine AS_gt rfl ?_ ?_ | refine AS_gf rfl ?_ ?_ | refine AI_cond rfl ?_ ?_) <;> intro hc <;> have hc' := hc <;> try simp only [decide_eq_true_eq, decide_eq_false_iff_not, Bool.not_eq_true', Bool.not_eq_false', Bool.not_eq_true, Bool.not_eq_false, beq_iff_eq, bne_iff_ne, beq_eq_false_iff_ne, bne_eq_false_iff_eq, Int.not_lt, Int.not_le, ge_iff_le, gt_iff_lt, not_and, ne_eq, Decidable.not_not] at hc'
  all_goals
    repeat (first | refine AI_seqk fun K hK => ?_ | refine AI_reg ?_ | ((first | refine wmv rfl ?_ | refine wag rfl ?_ | refine war _ rfl rfl rfl (by omega) (by omega) ?_ | refine wbn rfl rfl rfl ?_ | refine wnt rfl ?_ | refine wex rfl rfl ?_ | refine wpt rfl (by first | assumption | with_reducible rfl) rfl ?_ | refine wpf rfl (by first | assumption | with_reducible rfl) rfl ?_ | refine wpb rfl rfl rfl ?_ | refine wmf rfl ?_ | refine wnc rfl ?_ | refine wbq Try.underlying4 rfl rfl _ (.inr ⟨rfl, rfl⟩) ?_ | refine wbq Try.underlying4 rfl rfl _ (.inl ⟨rfl, rfl⟩) ?_); try dsimp only [st, List.set_cons_zero, List.set_cons_succ]) | ((first | refine AS_nil ?_ | refine AI_skip ?_ | refine AI_exit ?_); try simp only [AThen, ABlk, reduceIte, reduceCtorEq]) | ((first | refine hK _ _ ?_ | ((first | clear hK K | clear IH hK K); refine hK _ _ ?_) | ((first | clear hK K | clear IH hK K); (first | clear hK K | clear IH hK K); refine hK _ _ ?_) | ((first | clear hK K | clear IH hK K); (first | clear hK K | clear IH hK K); (first | clear hK K | clear IH hK K); refine hK _ _ ?_)); try (first | clear hK K | clear IH hK K)) | refine AI_cond_t rfl (by first | assumption | with_reducible rfl) ?_ | refine AI_cond_f rfl (by first | assumption | with_reducible rfl) ?_ | refine AS_gy rfl (by first | assumption | with_reducible rfl) ?_ | refine AS_gtn rfl (by first | assumption | with_reducible rfl) ?_ | refine AS_gfn rfl (by first | assumption | with_reducible rfl) ?_ | refine AI_block (AI_loop ?_) | refine AI_block ?_ | refine AI_ret ⟨_, rfl, ?_⟩)
  · refine ⟨?_, rfl⟩
    simp only [oneA, AV.b.injEq]
    symm
    simp
    intro e
    subst e
    exact hc' rfl
  · have hlen : ll.length = ll'.length := by omega
    refine AIL_ind (fun (n : Nat) a h' => ∃ (i : Int), (∃ r : Nat → AV, a = [v, v', un, un, .b false, .i .i64 i, r 6, r 7, r 8, r 9, r 10, r 11, r 12, r 13, r 14, r 15, r 16, r 17, r 18, r 19, r 20, r 21, r 22, r 23, r 24, r 25, r 26]) ∧ 0 ≤ i ∧ i + n = ll.length ∧ h = h' ∧ ll.take i.toNat = ll'.take i.toNat)
      ?_ ll.length _ _ ⟨0, exJ rfl, by omega, by omega, rfl, by simp⟩
    rintro n a h' ⟨i, ⟨r, rfl⟩, h0, hn, rfl, heq⟩ IH
    repeat (first | refine AI_seqk fun K hK => ?_ | refine AI_reg ?_ | ((first | refine wmv rfl ?_ | refine wag rfl ?_ | refine war _ rfl rfl rfl (by omega) (by omega) ?_ | refine wbn rfl rfl rfl ?_ | refine wnt rfl ?_ | refine wex rfl rfl ?_ | refine wpt rfl (by first | assumption | with_reducible rfl) rfl ?_ | refine wpf rfl (by first | assumption | with_reducible rfl) rfl ?_ | refine wpb rfl rfl rfl ?_ | refine wmf rfl ?_ | refine wnc rfl ?_ | refine wbq Try.underlying4 rfl rfl _ (.inr ⟨rfl, rfl⟩) ?_ | refine wbq Try.underlying4 rfl rfl _ (.inl ⟨rfl, rfl⟩) ?_); try dsimp only [st, List.set_cons_zero, List.set_cons_succ]) | ((first | refine AS_nil ?_ | refine AI_skip ?_ | refine AI_exit ?_); try simp only [AThen, ABlk, reduceIte, reduceCtorEq]) | ((first | refine hK _ _ ?_ | ((first | clear hK K | clear IH hK K); refine hK _ _ ?_) | ((first | clear hK K | clear IH hK K); (first | clear hK K | clear IH hK K); refine hK _ _ ?_) | ((first | clear hK K | clear IH hK K); (first | clear hK K | clear IH hK K); (first | clear hK K | clear IH hK K); refine hK _ _ ?_)); try (first | clear hK K | clear IH hK K)) | refine AI_cond_t rfl (by first | assumption | with_reducible rfl) ?_ | refine AI_cond_f rfl (by first | assumption | with_reducible rfl) ?_ | refine AS_gy rfl (by first | assumption | with_reducible rfl) ?_ | refine AS_gtn rfl (by first | assumption | with_reducible rfl) ?_ | refine AS_gfn rfl (by first | assumption | with_reducible rfl) ?_ | refine AI_block (AI_loop ?_) | refine AI_block ?_ | refine AI_ret ⟨_, rfl, ?_⟩)
    refine AS_op (OpR_lenA Try.underlying22 rfl (by rw [hR.outer.len, hR.len]) ?_)
    try (dsimp only [st, setL, AV.cells, List.set_cons_zero, List.set_cons_succ, List.drop_zero, List.drop_succ_cons, List.take_zero, List.take_succ_cons, Nat.zero_add, Nat.add_zero, Nat.reduceAdd, List.cons_append, List.nil_append, List.eraseIdx_cons_zero, List.eraseIdx_cons_succ])
    repeat (first | refine AI_seqk fun K hK => ?_ | refine AI_reg ?_ | ((first | refine wmv rfl ?_ | refine wag rfl ?_ | refine war _ rfl rfl rfl (by omega) (by omega) ?_ | refine wbn rfl rfl rfl ?_ | refine wnt rfl ?_ | refine wex rfl rfl ?_ | refine wpt rfl (by first | assumption | with_reducible rfl) rfl ?_ | refine wpf rfl (by first | assumption | with_reducible rfl) rfl ?_ | refine wpb rfl rfl rfl ?_ | refine wmf rfl ?_ | refine wnc rfl ?_ | refine wbq Try.underlying4 rfl rfl _ (.inr ⟨rfl, rfl⟩) ?_ | refine wbq Try.underlying4 rfl rfl _ (.inl ⟨rfl, rfl⟩) ?_); try dsimp only [st, List.set_cons_zero, List.set_cons_succ]) | ((first | refine AS_nil ?_ | refine AI_skip ?_ | refine AI_exit ?_); try simp only [AThen, ABlk, reduceIte, reduceCtorEq]) | ((first | refine hK _ _ ?_ | ((first | clear hK K | clear IH hK K); refine hK _ _ ?_) | ((first | clear hK K | clear IH hK K); (first | clear hK K | clear IH hK K); refine hK _ _ ?_) | ((first | clear hK K | clear IH hK K); (first | clear hK K | clear IH hK K); (first | clear hK K | clear IH hK K); refine hK _ _ ?_)); try (first | clear hK K | clear IH hK K)) | refine AI_cond_t rfl (by first | assumption | with_reducible rfl) ?_ | refine AI_cond_f rfl (by first | assumption | with_reducible rfl) ?_ | refine AS_gy rfl (by first | assumption | with_reducible rfl) ?_ | refine AS_gtn rfl (by first | assumption | with_reducible rfl) ?_ | refine AS_gfn rfl (by first | assumption | with_reducible rfl) ?_ | refine AI_block (AI_loop ?_) | refine AI_block ?_ | refine AI_ret ⟨_, rfl, ?_⟩)
    (first | refine AS_gt rfl ?_ ?_ | refine AS_gf rfl ?_ ?_ | refine AI_cond rfl ?_ ?_) <;> intro hc <;> have hc' := hc <;> try simp only [decide_eq_true_eq, decide_eq_false_iff_not, Bool.not_eq_true', Bool.not_eq_false', Bool.not_eq_true, Bool.not_eq_false, beq_iff_eq, bne_iff_ne, beq_eq_false_iff_ne, bne_eq_false_iff_eq, Int.not_lt, Int.not_le, ge_iff_le, gt_iff_lt, not_and, ne_eq, Decidable.not_not] at hc'
    all_goals
      repeat (first | refine AI_seqk fun K hK => ?_ | refine AI_reg ?_ | ((first | refine wmv rfl ?_ | refine wag rfl ?_ | refine war _ rfl rfl rfl (by omega) (by omega) ?_ | refine wbn rfl rfl rfl ?_ | refine wnt rfl ?_ | refine wex rfl rfl ?_ | refine wpt rfl (by first | assumption | with_reducible rfl) rfl ?_ | refine wpf rfl (by first | assumption | with_reducible rfl) rfl ?_ | refine wpb rfl rfl rfl ?_ | refine wmf rfl ?_ | refine wnc rfl ?_ | refine wbq Try.underlying4 rfl rfl _ (.inr ⟨rfl, rfl⟩) ?_ | refine wbq Try.underlying4 rfl rfl _ (.inl ⟨rfl, rfl⟩) ?_); try dsimp only [st, List.set_cons_zero, List.set_cons_succ]) | ((first | refine AS_nil ?_ | refine AI_skip ?_ | refine AI_exit ?_); try simp only [AThen, ABlk, reduceIte, reduceCtorEq]) | ((first | refine hK _ _ ?_ | ((first | clear hK K | clear IH hK K); refine hK _ _ ?_) | ((first | clear hK K | clear IH hK K); (first | clear hK K | clear IH hK K); refine hK _ _ ?_) | ((first | clear hK K | clear IH hK K); (first | clear hK K | clear IH hK K); (first | clear hK K | clear IH hK K); refine hK _ _ ?_)); try (first | clear hK K | clear IH hK K)) | refine AI_cond_t rfl (by first | assumption | with_reducible rfl) ?_ | refine AI_cond_f rfl (by first | assumption | with_reducible rfl) ?_ | refine AS_gy rfl (by first | assumption | with_reducible rfl) ?_ | refine AS_gtn rfl (by first | assumption | with_reducible rfl) ?_ | refine AS_gfn rfl (by first | assumption | with_reducible rfl) ?_ | refine AI_block (AI_loop ?_) | refine AI_block ?_ | refine AI_ret ⟨_, rfl, ?_⟩)
    · obtain ⟨y, hy, hym, _⟩ := drop_at h0 hc'
      obtain ⟨y', hy', _, _⟩ := drop_at (l := ll') h0 (by omega)
      obtain ⟨u, hu, hru⟩ := hR.at_ hy
      obtain ⟨u', hu', hru'⟩ := hR'.at_ hy'
      refine dr14_0 2 ?_
      repeat (first | ((first | refine AX_v (OpV_move rfl) ?_ | refine AX_v (OpV_assign rfl) ?_ | refine AX_v (OpV_arith _ rfl rfl rfl (by omega) (by omega)) ?_ | refine AX_v (OpV_bin rfl rfl rfl) ?_ | refine AX_v (OpV_not rfl) ?_ | refine AX_v (OpV_extract rfl rfl) ?_ | refine AX_v (OpV_nilCheck rfl) ?_); try dsimp only [st, List.set_cons_zero, List.set_cons_succ]) | (refine AX_nil ?_; try simp only [AThen, ABlk, reduceIte, reduceCtorEq]))
      refine AX_idx Try.underlying22 sz31 rfl rfl hR.outer (fun _ => rfl) h0 hu fun b o hrow => ?_
      try (dsimp only [st, setL, AV.cells, List.set_cons_zero, List.set_cons_succ, List.drop_zero, List.drop_succ_cons, List.take_zero, List.take_succ_cons, Nat.zero_add, Nat.add_zero, Nat.reduceAdd, List.cons_append, List.nil_append, List.eraseIdx_cons_zero, List.eraseIdx_cons_succ])
      repeat (first | ((first | refine AX_v (OpV_move rfl) ?_ | refine AX_v (OpV_assign rfl) ?_ | refine AX_v (OpV_arith _ rfl rfl rfl (by omega) (by omega)) ?_ | refine AX_v (OpV_bin rfl rfl rfl) ?_ | refine AX_v (OpV_not rfl) ?_ | refine AX_v (OpV_extract rfl rfl) ?_ | refine AX_v (OpV_nilCheck rfl) ?_); try dsimp only [st, List.set_cons_zero, List.set_cons_succ]) | (refine AX_nil ?_; try simp only [AThen, ABlk, reduceIte, reduceCtorEq]))
      refine AX_f (OpF_load rfl (loadA_1 ag31 (cell_row hrow)) (by first | (intro e; cases e; done) | (intro _; rfl) | simp [det, detS])) ?_
      try (dsimp only [st, setL, AV.cells, List.set_cons_zero, List.set_cons_succ, List.drop_zero, List.drop_succ_cons, List.take_zero, List.take_succ_cons, Nat.zero_add, Nat.add_zero, Nat.reduceAdd, List.cons_append, List.nil_append, List.eraseIdx_cons_zero, List.eraseIdx_cons_succ])
      repeat (first | ((first | refine AX_v (OpV_move rfl) ?_ | refine AX_v (OpV_assign rfl) ?_ | refine AX_v (OpV_arith _ rfl rfl rfl (by omega) (by omega)) ?_ | refine AX_v (OpV_bin rfl rfl rfl) ?_ | refine AX_v (OpV_not rfl) ?_ | refine AX_v (OpV_extract rfl rfl) ?_ | refine AX_v (OpV_nilCheck rfl) ?_); try dsimp only [st, List.set_cons_zero, List.set_cons_succ]) | (refine AX_nil ?_; try simp only [AThen, ABlk, reduceIte, reduceCtorEq]))
      refine AX_idx Try.underlying22 sz31 rfl rfl hR'.outer (fun _ => rfl) h0 hu' fun b o hrow => ?_
      try (dsimp only [st, setL, AV.cells, List.set_cons_zero, List.set_cons_succ, List.drop_zero, List.drop_succ_cons, List.take_zero, List.take_succ_cons, Nat.zero_add, Nat.add_zero, Nat.reduceAdd, List.cons_append, List.nil_append, List.eraseIdx_cons_zero, List.eraseIdx_cons_succ])
      repeat (first | ((first | refine AX_v (OpV_move rfl) ?_ | refine AX_v (OpV_assign rfl) ?_ | refine AX_v (OpV_arith _ rfl rfl rfl (by omega) (by omega)) ?_ | refine AX_v (OpV_bin rfl rfl rfl) ?_ | refine AX_v (OpV_not rfl) ?_ | refine AX_v (OpV_extract rfl rfl) ?_ | refine AX_v (OpV_nilCheck rfl) ?_); try dsimp only [st, List.set_cons_zero, List.set_cons_succ]) | (refine AX_nil ?_; try simp only [AThen, ABlk, reduceIte, reduceCtorEq]))
      refine AX_f (OpF_load rfl (loadA_1 ag31 (cell_row hrow)) (by first | (intro e; cases e; done) | (intro _; rfl) | simp [det, detS])) ?_
      try (dsimp only [st, setL, AV.cells, List.set_cons_zero, List.set_cons_succ, List.drop_zero, List.drop_succ_cons, List.take_zero, List.take_succ_cons, Nat.zero_add, Nat.add_zero, Nat.reduceAdd, List.cons_append, List.nil_append, List.eraseIdx_cons_zero, List.eraseIdx_cons_succ])
      repeat (first | ((first | refine AX_v (OpV_move rfl) ?_ | refine AX_v (OpV_assign rfl) ?_ | refine AX_v (OpV_arith _ rfl rfl rfl (by omega) (by omega)) ?_ | refine AX_v (OpV_bin rfl rfl rfl) ?_ | refine AX_v (OpV_not rfl) ?_ | refine AX_v (OpV_extract rfl rfl) ?_ | refine AX_v (OpV_nilCheck rfl) ?_); try dsimp only [st, List.set_cons_zero, List.set_cons_succ]) | (refine AX_nil ?_; try simp only [AThen, ABlk, reduceIte, reduceCtorEq]))
      refine AX_q rfl rfl (eqIntS_ac y y' u u' _ hru.frz hru'.frz (hl y hym)) (fun v h' H => H.1) (by first | exact plain_b _ | exact plain_i _ _) rfl ?_
      try (dsimp only [st, setL, AV.cells, List.set_cons_zero, List.set_cons_succ, List.drop_zero, List.drop_succ_cons, List.take_zero, List.take_succ_cons, Nat.zero_add, Nat.add_zero, Nat.reduceAdd, List.cons_append, List.nil_append, List.eraseIdx_cons_zero, List.eraseIdx_cons_succ])
      repeat (first | ((first | refine AX_v (OpV_move rfl) ?_ | refine AX_v (OpV_assign rfl) ?_ | refine AX_v (OpV_arith _ rfl rfl rfl (by omega) (by omega)) ?_ | refine AX_v (OpV_bin rfl rfl rfl) ?_ | refine AX_v (OpV_not rfl) ?_ | refine AX_v (OpV_extract rfl rfl) ?_ | refine AX_v (OpV_nilCheck rfl) ?_); try dsimp only [st, List.set_cons_zero, List.set_cons_succ]) | (refine AX_nil ?_; try simp only [AThen, ABlk, reduceIte, reduceCtorEq]))
      repeat (first | refine AI_seqk fun K hK => ?_ | refine AI_reg ?_ | ((first | refine wmv rfl ?_ | refine wag rfl ?_ | refine war _ rfl rfl rfl (by omega) (by omega) ?_ | refine wbn rfl rfl rfl ?_ | refine wnt rfl ?_ | refine wex rfl rfl ?_ | refine wpt rfl (by first | assumption | with_reducible rfl) rfl ?_ | refine wpf rfl (by first | assumption | with_reducible rfl) rfl ?_ | refine wpb rfl rfl rfl ?_ | refine wmf rfl ?_ | refine wnc rfl ?_ | refine wbq Try.underlying4 rfl rfl _ (.inr ⟨rfl, rfl⟩) ?_ | refine wbq Try.underlying4 rfl rfl _ (.inl ⟨rfl, rfl⟩) ?_); try dsimp only [st, List.set_cons_zero, List.set_cons_succ]) | ((first | refine AS_nil ?_ | refine AI_skip ?_ | refine AI_exit ?_); try simp only [AThen, ABlk, reduceIte, reduceCtorEq]) | ((first | refine hK _ _ ?_ | ((first | clear hK K | clear IH hK K); refine hK _ _ ?_) | ((first | clear hK K | clear IH hK K); (first | clear hK K | clear IH hK K); refine hK _ _ ?_) | ((first | clear hK K | clear IH hK K); (first | clear hK K | clear IH hK K); (first | clear hK K | clear IH hK K); refine hK _ _ ?_)); try (first | clear hK K | clear IH hK K)) | refine AI_cond_t rfl (by first | assumption | with_reducible rfl) ?_ | refine AI_cond_f rfl (by first | assumption | with_reducible rfl) ?_ | refine AS_gy rfl (by first | assumption | with_reducible rfl) ?_ | refine AS_gtn rfl (by first | assumption | with_reducible rfl) ?_ | refine AS_gfn rfl (by first | assumption | with_reducible rfl) ?_ | refine AI_block (AI_loop ?_) | refine AI_block ?_ | refine AI_ret ⟨_, rfl, ?_⟩)
      (first | refine AS_gt rfl ?_ ?_ | refine AS_gf rfl ?_ ?_ | refine AI_cond rfl ?_ ?_) <;> intro hc <;> have hc' := hc <;> try simp only [decide_eq_true_eq, decide_eq_false_iff_not, Bool.not_eq_true', Bool.not_eq_false', Bool.not_eq_true, Bool.not_eq_false, beq_iff_eq, bne_iff_ne, beq_eq_false_iff_ne, bne_eq_false_iff_eq, Int.not_lt, Int.not_le, ge_iff_le, gt_iff_lt, not_and, ne_eq, Decidable.not_not] at hc'
      all_goals
        repeat (first | refine AI_seqk fun K hK => ?_ | refine AI_reg ?_ | ((first | refine wmv rfl ?_ | refine wag rfl ?_ | refine war _ rfl rfl rfl (by omega) (by omega) ?_ | refine wbn rfl rfl rfl ?_ | refine wnt rfl ?_ | refine wex rfl rfl ?_ | refine wpt rfl (by first | assumption | with_reducible rfl) rfl ?_ | refine wpf rfl (by first | assumption | with_reducible rfl) rfl ?_ | refine wpb rfl rfl rfl ?_ | refine wmf rfl ?_ | refine wnc rfl ?_ | refine wbq Try.underlying4 rfl rfl _ (.inr ⟨rfl, rfl⟩) ?_ | refine wbq Try.underlying4 rfl rfl _ (.inl ⟨rfl, rfl⟩) ?_); try dsimp only [st, List.set_cons_zero, List.set_cons_succ]) | ((first | refine AS_nil ?_ | refine AI_skip ?_ | refine AI_exit ?_); try simp only [AThen, ABlk, reduceIte, reduceCtorEq]) | ((first | refine hK _ _ ?_ | ((first | clear hK K | clear IH hK K); refine hK _ _ ?_) | ((first | clear hK K | clear IH hK K); (first | clear hK K | clear IH hK K); refine hK _ _ ?_) | ((first | clear hK K | clear IH hK K); (first | clear hK K | clear IH hK K); (first | clear hK K | clear IH hK K); refine hK _ _ ?_)); try (first | clear hK K | clear IH hK K)) | refine AI_cond_t rfl (by first | assumption | with_reducible rfl) ?_ | refine AI_cond_f rfl (by first | assumption | with_reducible rfl) ?_ | refine AS_gy rfl (by first | assumption | with_reducible rfl) ?_ | refine AS_gtn rfl (by first | assumption | with_reducible rfl) ?_ | refine AS_gfn rfl (by first | assumption | with_reducible rfl) ?_ | refine AI_block (AI_loop ?_) | refine AI_block ?_ | refine AI_ret ⟨_, rfl, ?_⟩)
      · refine ⟨?_, rfl⟩
        have hne := of_decide_eq_false (nt hc)
        simp only [oneA, AV.b.injEq]
        symm
        simp only [decide_eq_false_iff_not]
        intro e
        exact hne (Option.some.inj (by rw [← hy, ← hy', e]))
      · have he := of_decide_eq_true (nf hc)
        refine IH (n - 1) _ _ (by omega) ⟨i + 1, exJ rfl, by omega, by omega, rfl, ?_⟩
        rw [toNat_succ h0, take_snoc hy, take_snoc hy', heq, he]
    · refine ⟨?_, rfl⟩
      have e : i.toNat = ll.length := by omega
      rw [e] at heq
      rw [List.take_length, hlen, List.take_length] at heq
      simp [oneA, heq]

theorem repNs (n : Nat) : List.replicate n AV.ns = (List.replicate n AV.ns).flatMap enV := by
  induction n with
  | zero => rfl
  | succ n ih => simp only [List.replicate_succ, List.flatMap_cons, ← ih, enV]; rfl

theorem put_next {us : List AV} {u : AV} {n i : Nat} (hi : us.length = i) (hn : i < n) : (us ++ List.replicate (n - i) AV.ns).set i u = (us ++ [u]) ++ List.replicate (n - (i + 1)) AV.ns := by
  rw [List.set_append_right _ _ (by omega), hi, Nat.sub_self, show n - i = (n - (i + 1)) + 1 by omega, List.replicate_succ, List.set_cons_zero]
  simp

theorem toIntSS_own (ll : List (List Int)) (v : AV) (vs : List AV) (h : AH) (hR : RdSS h v ll vs) (hll : ll.length ≤ 1048576) (hl : ∀ l ∈ ll, l.length ≤ 1048576) :
    AC Try.prog 12 [v] h (fun r h' => ∃ us, OwnSS h h' r ll us) := by
  refine e12 _ fun wf => ?_
  unfold c12
  repeat (first | refine AI_seqk fun K hK => ?_ | refine AI_reg ?_ | ((first | refine wmv rfl ?_ | refine wag rfl ?_ | refine war _ rfl rfl rfl (by omega) (by omega) ?_ | refine wbn rfl rfl rfl ?_ | refine wnt rfl ?_ | refine wex rfl rfl ?_ | refine wpt rfl (by first | assumption | with_reducible rfl) rfl ?_ | refine wpf rfl (by first | assumption | with_reducible rfl) rfl ?_ | refine wpb rfl rfl rfl ?_ | refine wmf rfl ?_ | refine wnc rfl ?_ | refine wbq Try.underlying4 rfl rfl _ (.inr ⟨rfl, rfl⟩) ?_ | refine wbq Try.underlying4 rfl rfl _ (.inl ⟨rfl, rfl⟩) ?_); try dsimp only [st, List.set_cons_zero, List.set_cons_succ]) | ((first | refine AS_nil ?_ | refine AI_skip ?_ | refine AI_exit ?_); try simp only [AThen, ABlk, reduceIte, reduceCtorEq]) | ((first | refine hK _ _ ?_ | ((first | clear hK K | clear IH hK K); refine hK _ _ ?_) | ((first | clear hK K | clear IH hK K); (first | clear hK K | clear IH hK K); refine hK _ _ ?_) | ((first | clear hK K | clear IH hK K); (first | clear hK K | clear IH hK K); (first | clear hK K | clear IH hK K); refine hK _ _ ?_)); try (first | clear hK K | clear IH hK K)) | refine AI_cond_t rfl (by first | assumption | with_reducible rfl) ?_ | refine AI_cond_f rfl (by first | assumption | with_reducible rfl) ?_ | refine AS_gy rfl (by first | assumption | with_reducible rfl) ?_ | refine AS_gtn rfl (by first | assumption | with_reducible rfl) ?_ | refine AS_gfn rfl (by first | assumption | with_reducible rfl) ?_ | refine AI_block (AI_loop ?_) | refine AI_block ?_ | refine AI_ret ⟨_, rfl, ?_⟩)
  refine AS_op (OpR_lenA Try.underlying22 rfl (by rw [hR.outer.len, hR.len]) ?_)
  try (dsimp only [st, setL, AV.cells, List.set_cons_zero, List.set_cons_succ, List.drop_zero, List.drop_succ_cons, List.take_zero, List.take_succ_cons, Nat.zero_add, Nat.add_zero, Nat.reduceAdd, List.cons_append, List.nil_append, List.eraseIdx_cons_zero, List.eraseIdx_cons_succ])
  repeat (first | refine AI_seqk fun K hK => ?_ | refine AI_reg ?_ | ((first | refine wmv rfl ?_ | refine wag rfl ?_ | refine war _ rfl rfl rfl (by omega) (by omega) ?_ | refine wbn rfl rfl rfl ?_ | refine wnt rfl ?_ | refine wex rfl rfl ?_ | refine wpt rfl (by first | assumption | with_reducible rfl) rfl ?_ | refine wpf rfl (by first | assumption | with_reducible rfl) rfl ?_ | refine wpb rfl rfl rfl ?_ | refine wmf rfl ?_ | refine wnc rfl ?_ | refine wbq Try.underlying4 rfl rfl _ (.inr ⟨rfl, rfl⟩) ?_ | refine wbq Try.underlying4 rfl rfl _ (.inl ⟨rfl, rfl⟩) ?_); try dsimp only [st, List.set_cons_zero, List.set_cons_succ]) | ((first | refine AS_nil ?_ | refine AI_skip ?_ | refine AI_exit ?_); try simp only [AThen, ABlk, reduceIte, reduceCtorEq]) | ((first | refine hK _ _ ?_ | ((first | clear hK K | clear IH hK K); refine hK _ _ ?_) | ((first | clear hK K | clear IH hK K); (first | clear hK K | clear IH hK K); refine hK _ _ ?_) | ((first | clear hK K | clear IH hK K); (first | clear hK K | clear IH hK K); (first | clear hK K | clear IH hK K); refine hK _ _ ?_)); try (first | clear hK K | clear IH hK K)) | refine AI_cond_t rfl (by first | assumption | with_reducible rfl) ?_ | refine AI_cond_f rfl (by first | assumption | with_reducible rfl) ?_ | refine AS_gy rfl (by first | assumption | with_reducible rfl) ?_ | refine AS_gtn rfl (by first | assumption | with_reducible rfl) ?_ | refine AS_gfn rfl (by first | assumption | with_reducible rfl) ?_ | refine AI_block (AI_loop ?_) | refine AI_block ?_ | refine AI_ret ⟨_, rfl, ?_⟩)
  refine AS_op (OpR_make Try.underlying22 sz31 by31 ze31 rfl rfl rfl rfl rfl (by omega) (by omega) (by omega) ?_)
  try (dsimp only [st, setL, AV.cells, List.set_cons_zero, List.set_cons_succ, List.drop_zero, List.drop_succ_cons, List.take_zero, List.take_succ_cons, Nat.zero_add, Nat.add_zero, Nat.reduceAdd, List.cons_append, List.nil_append, List.eraseIdx_cons_zero, List.eraseIdx_cons_succ])
  repeat (first | refine AI_seqk fun K hK => ?_ | refine AI_reg ?_ | ((first | refine wmv rfl ?_ | refine wag rfl ?_ | refine war _ rfl rfl rfl (by omega) (by omega) ?_ | refine wbn rfl rfl rfl ?_ | refine wnt rfl ?_ | refine wex rfl rfl ?_ | refine wpt rfl (by first | assumption | with_reducible rfl) rfl ?_ | refine wpf rfl (by first | assumption | with_reducible rfl) rfl ?_ | refine wpb rfl rfl rfl ?_ | refine wmf rfl ?_ | refine wnc rfl ?_ | refine wbq Try.underlying4 rfl rfl _ (.inr ⟨rfl, rfl⟩) ?_ | refine wbq Try.underlying4 rfl rfl _ (.inl ⟨rfl, rfl⟩) ?_); try dsimp only [st, List.set_cons_zero, List.set_cons_succ]) | ((first | refine AS_nil ?_ | refine AI_skip ?_ | refine AI_exit ?_); try simp only [AThen, ABlk, reduceIte, reduceCtorEq]) | ((first | refine hK _ _ ?_ | ((first | clear hK K | clear IH hK K); refine hK _ _ ?_) | ((first | clear hK K | clear IH hK K); (first | clear hK K | clear IH hK K); refine hK _ _ ?_) | ((first | clear hK K | clear IH hK K); (first | clear hK K | clear IH hK K); (first | clear hK K | clear IH hK K); refine hK _ _ ?_)); try (first | clear hK K | clear IH hK K)) | refine AI_cond_t rfl (by first | assumption | with_reducible rfl) ?_ | refine AI_cond_f rfl (by first | assumption | with_reducible rfl) ?_ | refine AS_gy rfl (by first | assumption | with_reducible rfl) ?_ | refine AS_gtn rfl (by first | assumption | with_reducible rfl) ?_ | refine AS_gfn rfl (by first | assumption | with_reducible rfl) ?_ | refine AI_block (AI_loop ?_) | refine AI_block ?_ | refine AI_ret ⟨_, rfl, ?_⟩)
  have hM0 : Mut h 1 enV (h.new 1 (List.replicate ll.length AV.ns)) h.cs.length (List.replicate ll.length AV.ns) := Mut.fresh wf (.refl h) wf _ (repNs _)
  refine AIL_ind (fun (n : Nat) a h' => ∃ (i : Int) (us : List AV), (∃ r : Nat → AV, a = [v, un, .ns, .sl h.cs.length 0 ll.length true, .i .i64 i, r 5, r 6, r 7, r 8, r 9, r 10, r 11, r 12, r 13, r 14, r 15, r 16, r 17, r 18, r 19, r 20, r 21, r 22]) ∧ 0 ≤ i ∧ i + n = ll.length ∧ us.length = i.toNat ∧
      AL.Own h 1 enV h' (.sl h.cs.length 0 ll.length true) (us ++ List.replicate (ll.length - i.toNat) AV.ns) ∧ (∀ (j : Nat) (u : AV) (l : List Int), us[j]? = some u → ll[j]? = some l → AL.Own h 1 enI h' u l ∧ geV u (h.cs.length + 1)) ∧
      (∀ (j j' : Nat) (u u' : AV), us[j]? = some u → us[j']? = some u' → j ≠ j' → apartV u u') ∧ h.cs.length < h'.cs.length)
    ?_ ll.length _ _ ⟨0, [], exJ rfl, by omega, by omega, rfl, by simpa using hM0.own (n := ll.length) enV1 true (by simp), by simp, by simp, by simp [AH.new]⟩
  rintro n a h' ⟨i, us, ⟨r, rfl⟩, h0, hn, hus, hO, hrows, hap, hlt⟩ IH
  repeat (first | refine AI_seqk fun K hK => ?_ | refine AI_reg ?_ | ((first | refine wmv rfl ?_ | refine wag rfl ?_ | refine war _ rfl rfl rfl (by omega) (by omega) ?_ | refine wbn rfl rfl rfl ?_ | refine wnt rfl ?_ | refine wex rfl rfl ?_ | refine wpt rfl (by first | assumption | with_reducible rfl) rfl ?_ | refine wpf rfl (by first | assumption | with_reducible rfl) rfl ?_ | refine wpb rfl rfl rfl ?_ | refine wmf rfl ?_ | refine wnc rfl ?_ | refine wbq Try.underlying4 rfl rfl _ (.inr ⟨rfl, rfl⟩) ?_ | refine wbq Try.underlying4 rfl rfl _ (.inl ⟨rfl, rfl⟩) ?_); try dsimp only [st, List.set_cons_zero, List.set_cons_succ]) | ((first | refine AS_nil ?_ | refine AI_skip ?_ | refine AI_exit ?_); try simp only [AThen, ABlk, reduceIte, reduceCtorEq]) | ((first | refine hK _ _ ?_ | ((first | clear hK K | clear IH hK K); refine hK _ _ ?_) | ((first | clear hK K | clear IH hK K); (first | clear hK K | clear IH hK K); refine hK _ _ ?_) | ((first | clear hK K | clear IH hK K); (first | clear hK K | clear IH hK K); (first | clear hK K | clear IH hK K); refine hK _ _ ?_)); try (first | clear hK K | clear IH hK K)) | refine AI_cond_t rfl (by first | assumption | with_reducible rfl) ?_ | refine AI_cond_f rfl (by first | assumption | with_reducible rfl) ?_ | refine AS_gy rfl (by first | assumption | with_reducible rfl) ?_ | refine AS_gtn rfl (by first | assumption | with_reducible rfl) ?_ | refine AS_gfn rfl (by first | assumption | with_reducible rfl) ?_ | refine AI_block (AI_loop ?_) | refine AI_block ?_ | refine AI_ret ⟨_, rfl, ?_⟩)
  refine AS_op (OpR_lenA Try.underlying22 rfl (by rw [hR.outer.len, hR.len]) ?_)
  try (dsimp only [st, setL, AV.cells, List.set_cons_zero, List.set_cons_succ, List.drop_zero, List.drop_succ_cons, List.take_zero, List.take_succ_cons, Nat.zero_add, Nat.add_zero, Nat.reduceAdd, List.cons_append, List.nil_append, List.eraseIdx_cons_zero, List.eraseIdx_cons_succ])
  repeat (first | refine AI_seqk fun K hK => ?_ | refine AI_reg ?_ | ((first | refine wmv rfl ?_ | refine wag rfl ?_ | refine war _ rfl rfl rfl (by omega) (by omega) ?_ | refine wbn rfl rfl rfl ?_ | refine wnt rfl ?_ | refine wex rfl rfl ?_ | refine wpt rfl (by first | assumption | with_reducible rfl) rfl ?_ | refine wpf rfl (by first | assumption | with_reducible rfl) rfl ?_ | refine wpb rfl rfl rfl ?_ | refine wmf rfl ?_ | refine wnc rfl ?_ | refine wbq Try.underlying4 rfl rfl _ (.inr ⟨rfl, rfl⟩) ?_ | refine wbq Try.underlying4 rfl rfl _ (.inl ⟨rfl, rfl⟩) ?_); try dsimp only [st, List.set_cons_zero, List.set_cons_succ]) | ((first | refine AS_nil ?_ | refine AI_skip ?_ | refine AI_exit ?_); try simp only [AThen, ABlk, reduceIte, reduceCtorEq]) | ((first | refine hK _ _ ?_ | ((first | clear hK K | clear IH hK K); refine hK _ _ ?_) | ((first | clear hK K | clear IH hK K); (first | clear hK K | clear IH hK K); refine hK _ _ ?_) | ((first | clear hK K | clear IH hK K); (first | clear hK K | clear IH hK K); (first | clear hK K | clear IH hK K); refine hK _ _ ?_)); try (first | clear hK K | clear IH hK K)) | refine AI_cond_t rfl (by first | assumption | with_reducible rfl) ?_ | refine AI_cond_f rfl (by first | assumption | with_reducible rfl) ?_ | refine AS_gy rfl (by first | assumption | with_reducible rfl) ?_ | refine AS_gtn rfl (by first | assumption | with_reducible rfl) ?_ | refine AS_gfn rfl (by first | assumption | with_reducible rfl) ?_ | refine AI_block (AI_loop ?_) | refine AI_block ?_ | refine AI_ret ⟨_, rfl, ?_⟩)
  (first | refine AS_gt rfl ?_ ?_ | refine AS_gf rfl ?_ ?_ | refine AI_cond rfl ?_ ?_) <;> intro hc <;> have hc' := hc <;> try simp only [decide_eq_true_eq, decide_eq_false_iff_not, Bool.not_eq_true', Bool.not_eq_false', Bool.not_eq_true, Bool.not_eq_false, beq_iff_eq, bne_iff_ne, beq_eq_false_iff_ne, bne_eq_false_iff_eq, Int.not_lt, Int.not_le, ge_iff_le, gt_iff_lt, not_and, ne_eq, Decidable.not_not] at hc'
  all_goals
    repeat (first | refine AI_seqk fun K hK => ?_ | refine AI_reg ?_ | ((first | refine wmv rfl ?_ | refine wag rfl ?_ | refine war _ rfl rfl rfl (by omega) (by omega) ?_ | refine wbn rfl rfl rfl ?_ | refine wnt rfl ?_ | refine wex rfl rfl ?_ | refine wpt rfl (by first | assumption | with_reducible rfl) rfl ?_ | refine wpf rfl (by first | assumption | with_reducible rfl) rfl ?_ | refine wpb rfl rfl rfl ?_ | refine wmf rfl ?_ | refine wnc rfl ?_ | refine wbq Try.underlying4 rfl rfl _ (.inr ⟨rfl, rfl⟩) ?_ | refine wbq Try.underlying4 rfl rfl _ (.inl ⟨rfl, rfl⟩) ?_); try dsimp only [st, List.set_cons_zero, List.set_cons_succ]) | ((first | refine AS_nil ?_ | refine AI_skip ?_ | refine AI_exit ?_); try simp only [AThen, ABlk, reduceIte, reduceCtorEq]) | ((first | refine hK _ _ ?_ | ((first | clear hK K | clear IH hK K); refine hK _ _ ?_) | ((first | clear hK K | clear IH hK K); (first | clear hK K | clear IH hK K); refine hK _ _ ?_) | ((first | clear hK K | clear IH hK K); (first | clear hK K | clear IH hK K); (first | clear hK K | clear IH hK K); refine hK _ _ ?_)); try (first | clear hK K | clear IH hK K)) | refine AI_cond_t rfl (by first | assumption | with_reducible rfl) ?_ | refine AI_cond_f rfl (by first | assumption | with_reducible rfl) ?_ | refine AS_gy rfl (by first | assumption | with_reducible rfl) ?_ | refine AS_gtn rfl (by first | assumption | with_reducible rfl) ?_ | refine AS_gfn rfl (by first | assumption | with_reducible rfl) ?_ | refine AI_block (AI_loop ?_) | refine AI_block ?_ | refine AI_ret ⟨_, rfl, ?_⟩)
  · obtain ⟨l, hy, hym, _⟩ := drop_at h0 hc'
    obtain ⟨w, hw, hrw⟩ := hR.at_ hy
    refine AS_op (OpR_idx Try.underlying22 sz31 rfl rfl (hR.le hO.le).outer (fun _ => rfl) h0 hw fun b o hrow => ?_)
    try (dsimp only [st, setL, AV.cells, List.set_cons_zero, List.set_cons_succ, List.drop_zero, List.drop_succ_cons, List.take_zero, List.take_succ_cons, Nat.zero_add, Nat.add_zero, Nat.reduceAdd, List.cons_append, List.nil_append, List.eraseIdx_cons_zero, List.eraseIdx_cons_succ])
    repeat (first | refine AI_seqk fun K hK => ?_ | refine AI_reg ?_ | ((first | refine wmv rfl ?_ | refine wag rfl ?_ | refine war _ rfl rfl rfl (by omega) (by omega) ?_ | refine wbn rfl rfl rfl ?_ | refine wnt rfl ?_ | refine wex rfl rfl ?_ | refine wpt rfl (by first | assumption | with_reducible rfl) rfl ?_ | refine wpf rfl (by first | assumption | with_reducible rfl) rfl ?_ | refine wpb rfl rfl rfl ?_ | refine wmf rfl ?_ | refine wnc rfl ?_ | refine wbq Try.underlying4 rfl rfl _ (.inr ⟨rfl, rfl⟩) ?_ | refine wbq Try.underlying4 rfl rfl _ (.inl ⟨rfl, rfl⟩) ?_); try dsimp only [st, List.set_cons_zero, List.set_cons_succ]) | ((first | refine AS_nil ?_ | refine AI_skip ?_ | refine AI_exit ?_); try simp only [AThen, ABlk, reduceIte, reduceCtorEq]) | ((first | refine hK _ _ ?_ | ((first | clear hK K | clear IH hK K); refine hK _ _ ?_) | ((first | clear hK K | clear IH hK K); (first | clear hK K | clear IH hK K); refine hK _ _ ?_) | ((first | clear hK K | clear IH hK K); (first | clear hK K | clear IH hK K); (first | clear hK K | clear IH hK K); refine hK _ _ ?_)); try (first | clear hK K | clear IH hK K)) | refine AI_cond_t rfl (by first | assumption | with_reducible rfl) ?_ | refine AI_cond_f rfl (by first | assumption | with_reducible rfl) ?_ | refine AS_gy rfl (by first | assumption | with_reducible rfl) ?_ | refine AS_gtn rfl (by first | assumption | with_reducible rfl) ?_ | refine AS_gfn rfl (by first | assumption | with_reducible rfl) ?_ | refine AI_block (AI_loop ?_) | refine AI_block ?_ | refine AI_ret ⟨_, rfl, ?_⟩)
    refine AS_op (OpR_load rfl (loadA_1 ag31 (cell_row hrow)) ?_)
    try (dsimp only [st, setL, AV.cells, List.set_cons_zero, List.set_cons_succ, List.drop_zero, List.drop_succ_cons, List.take_zero, List.take_succ_cons, Nat.zero_add, Nat.add_zero, Nat.reduceAdd, List.cons_append, List.nil_append, List.eraseIdx_cons_zero, List.eraseIdx_cons_succ])
    repeat (first | refine AI_seqk fun K hK => ?_ | refine AI_reg ?_ | ((first | refine wmv rfl ?_ | refine wag rfl ?_ | refine war _ rfl rfl rfl (by omega) (by omega) ?_ | refine wbn rfl rfl rfl ?_ | refine wnt rfl ?_ | refine wex rfl rfl ?_ | refine wpt rfl (by first | assumption | with_reducible rfl) rfl ?_ | refine wpf rfl (by first | assumption | with_reducible rfl) rfl ?_ | refine wpb rfl rfl rfl ?_ | refine wmf rfl ?_ | refine wnc rfl ?_ | refine wbq Try.underlying4 rfl rfl _ (.inr ⟨rfl, rfl⟩) ?_ | refine wbq Try.underlying4 rfl rfl _ (.inl ⟨rfl, rfl⟩) ?_); try dsimp only [st, List.set_cons_zero, List.set_cons_succ]) | ((first | refine AS_nil ?_ | refine AI_skip ?_ | refine AI_exit ?_); try simp only [AThen, ABlk, reduceIte, reduceCtorEq]) | ((first | refine hK _ _ ?_ | ((first | clear hK K | clear IH hK K); refine hK _ _ ?_) | ((first | clear hK K | clear IH hK K); (first | clear hK K | clear IH hK K); refine hK _ _ ?_) | ((first | clear hK K | clear IH hK K); (first | clear hK K | clear IH hK K); (first | clear hK K | clear IH hK K); refine hK _ _ ?_)); try (first | clear hK K | clear IH hK K)) | refine AI_cond_t rfl (by first | assumption | with_reducible rfl) ?_ | refine AI_cond_f rfl (by first | assumption | with_reducible rfl) ?_ | refine AS_gy rfl (by first | assumption | with_reducible rfl) ?_ | refine AS_gtn rfl (by first | assumption | with_reducible rfl) ?_ | refine AS_gfn rfl (by first | assumption | with_reducible rfl) ?_ | refine AI_block (AI_loop ?_) | refine AI_block ?_ | refine AI_ret ⟨_, rfl, ?_⟩)
    refine AS_op (OpR_call rfl rfl (toIntS_own l w _ (hrw.le hO.le) (hl l hym)) ?_)
    rintro u h2 wf2 hu
    try (dsimp only [st, setL, AV.cells, List.set_cons_zero, List.set_cons_succ, List.drop_zero, List.drop_succ_cons, List.take_zero, List.take_succ_cons, Nat.zero_add, Nat.add_zero, Nat.reduceAdd, List.cons_append, List.nil_append, List.eraseIdx_cons_zero, List.eraseIdx_cons_succ])
    have hO2 := hO.le' wf2 hu.le
    have hb : h.cs.length < h.cs.length + 1 := by omega
    repeat (first | refine AI_seqk fun K hK => ?_ | refine AI_reg ?_ | ((first | refine wmv rfl ?_ | refine wag rfl ?_ | refine war _ rfl rfl rfl (by omega) (by omega) ?_ | refine wbn rfl rfl rfl ?_ | refine wnt rfl ?_ | refine wex rfl rfl ?_ | refine wpt rfl (by first | assumption | with_reducible rfl) rfl ?_ | refine wpf rfl (by first | assumption | with_reducible rfl) rfl ?_ | refine wpb rfl rfl rfl ?_ | refine wmf rfl ?_ | refine wnc rfl ?_ | refine wbq Try.underlying4 rfl rfl _ (.inr ⟨rfl, rfl⟩) ?_ | refine wbq Try.underlying4 rfl rfl _ (.inl ⟨rfl, rfl⟩) ?_); try dsimp only [st, List.set_cons_zero, List.set_cons_succ]) | ((first | refine AS_nil ?_ | refine AI_skip ?_ | refine AI_exit ?_); try simp only [AThen, ABlk, reduceIte, reduceCtorEq]) | ((first | refine hK _ _ ?_ | ((first | clear hK K | clear IH hK K); refine hK _ _ ?_) | ((first | clear hK K | clear IH hK K); (first | clear hK K | clear IH hK K); refine hK _ _ ?_) | ((first | clear hK K | clear IH hK K); (first | clear hK K | clear IH hK K); (first | clear hK K | clear IH hK K); refine hK _ _ ?_)); try (first | clear hK K | clear IH hK K)) | refine AI_cond_t rfl (by first | assumption | with_reducible rfl) ?_ | refine AI_cond_f rfl (by first | assumption | with_reducible rfl) ?_ | refine AS_gy rfl (by first | assumption | with_reducible rfl) ?_ | refine AS_gtn rfl (by first | assumption | with_reducible rfl) ?_ | refine AS_gfn rfl (by first | assumption | with_reducible rfl) ?_ | refine AI_block (AI_loop ?_) | refine AI_block ?_ | refine AI_ret ⟨_, rfl, ?_⟩)
    refine AS_op (OpR_idxs Try.underlying22 sz31 rfl rfl h0 hc' ?_)
    try (dsimp only [st, setL, AV.cells, List.set_cons_zero, List.set_cons_succ, List.drop_zero, List.drop_succ_cons, List.take_zero, List.take_succ_cons, Nat.zero_add, Nat.add_zero, Nat.reduceAdd, List.cons_append, List.nil_append, List.eraseIdx_cons_zero, List.eraseIdx_cons_succ])
    repeat (first | refine AI_seqk fun K hK => ?_ | refine AI_reg ?_ | ((first | refine wmv rfl ?_ | refine wag rfl ?_ | refine war _ rfl rfl rfl (by omega) (by omega) ?_ | refine wbn rfl rfl rfl ?_ | refine wnt rfl ?_ | refine wex rfl rfl ?_ | refine wpt rfl (by first | assumption | with_reducible rfl) rfl ?_ | refine wpf rfl (by first | assumption | with_reducible rfl) rfl ?_ | refine wpb rfl rfl rfl ?_ | refine wmf rfl ?_ | refine wnc rfl ?_ | refine wbq Try.underlying4 rfl rfl _ (.inr ⟨rfl, rfl⟩) ?_ | refine wbq Try.underlying4 rfl rfl _ (.inl ⟨rfl, rfl⟩) ?_); try dsimp only [st, List.set_cons_zero, List.set_cons_succ]) | ((first | refine AS_nil ?_ | refine AI_skip ?_ | refine AI_exit ?_); try simp only [AThen, ABlk, reduceIte, reduceCtorEq]) | ((first | refine hK _ _ ?_ | ((first | clear hK K | clear IH hK K); refine hK _ _ ?_) | ((first | clear hK K | clear IH hK K); (first | clear hK K | clear IH hK K); refine hK _ _ ?_) | ((first | clear hK K | clear IH hK K); (first | clear hK K | clear IH hK K); (first | clear hK K | clear IH hK K); refine hK _ _ ?_)); try (first | clear hK K | clear IH hK K)) | refine AI_cond_t rfl (by first | assumption | with_reducible rfl) ?_ | refine AI_cond_f rfl (by first | assumption | with_reducible rfl) ?_ | refine AS_gy rfl (by first | assumption | with_reducible rfl) ?_ | refine AS_gtn rfl (by first | assumption | with_reducible rfl) ?_ | refine AS_gfn rfl (by first | assumption | with_reducible rfl) ?_ | refine AI_block (AI_loop ?_) | refine AI_block ?_ | refine AI_ret ⟨_, rfl, ?_⟩)
    refine AS_op (OpR_storeO rfl rfl sz31 enV1 hO2 (z := u) (i := i.toNat) (by simp; omega) rfl hu.rd.one.1 hu.rd.one.2 fun h3 hF hO3 => ?_)
    try (dsimp only [st, setL, AV.cells, List.set_cons_zero, List.set_cons_succ, List.drop_zero, List.drop_succ_cons, List.take_zero, List.take_succ_cons, Nat.zero_add, Nat.add_zero, Nat.reduceAdd, List.cons_append, List.nil_append, List.eraseIdx_cons_zero, List.eraseIdx_cons_succ])
    repeat (first | refine AI_seqk fun K hK => ?_ | refine AI_reg ?_ | ((first | refine wmv rfl ?_ | refine wag rfl ?_ | refine war _ rfl rfl rfl (by omega) (by omega) ?_ | refine wbn rfl rfl rfl ?_ | refine wnt rfl ?_ | refine wex rfl rfl ?_ | refine wpt rfl (by first | assumption | with_reducible rfl) rfl ?_ | refine wpf rfl (by first | assumption | with_reducible rfl) rfl ?_ | refine wpb rfl rfl rfl ?_ | refine wmf rfl ?_ | refine wnc rfl ?_ | refine wbq Try.underlying4 rfl rfl _ (.inr ⟨rfl, rfl⟩) ?_ | refine wbq Try.underlying4 rfl rfl _ (.inl ⟨rfl, rfl⟩) ?_); try dsimp only [st, List.set_cons_zero, List.set_cons_succ]) | ((first | refine AS_nil ?_ | refine AI_skip ?_ | refine AI_exit ?_); try simp only [AThen, ABlk, reduceIte, reduceCtorEq]) | ((first | refine hK _ _ ?_ | ((first | clear hK K | clear IH hK K); refine hK _ _ ?_) | ((first | clear hK K | clear IH hK K); (first | clear hK K | clear IH hK K); refine hK _ _ ?_) | ((first | clear hK K | clear IH hK K); (first | clear hK K | clear IH hK K); (first | clear hK K | clear IH hK K); refine hK _ _ ?_)); try (first | clear hK K | clear IH hK K)) | refine AI_cond_t rfl (by first | assumption | with_reducible rfl) ?_ | refine AI_cond_f rfl (by first | assumption | with_reducible rfl) ?_ | refine AS_gy rfl (by first | assumption | with_reducible rfl) ?_ | refine AS_gtn rfl (by first | assumption | with_reducible rfl) ?_ | refine AS_gfn rfl (by first | assumption | with_reducible rfl) ?_ | refine AI_block (AI_loop ?_) | refine AI_block ?_ | refine AI_ret ⟨_, rfl, ?_⟩)
    rw [put_next hus (by omega)] at hO3
    have hle3 := hO3.le
    have hug : geV u (h.cs.length + 1) := hu.ge.mono (by omega)
    refine IH (n - 1) _ _ (by omega) ⟨i + 1, us ++ [u], exJ rfl, by omega, by omega, by rw [toNat_succ h0]; simp [hus], by rw [toNat_succ h0]; exact hO3, ?_, ?_, by rw [hF.len]; have := le_len hu.le; omega⟩
    · intro j z q hz hq
      rcases get_snoc hz with ⟨hj, hz1⟩ | ⟨e, hz1⟩
      · obtain ⟨g1, g2⟩ := hrows j z q hz1 hq
        exact ⟨(g1.le' wf2 hu.le).fr hF hle3 (apart_eq_ge g2 hb), g2⟩
      · rw [hz1]
        rw [e, hus, hy] at hq
        cases hq
        exact ⟨(hu.rebase wf hO.le).fr hF hle3 (apart_eq_ge hug hb), hug⟩
    · intro j j' z z' hz hz' hne
      have hlt' : ∀ (q : Nat) (y : AV), us[q]? = some y → ltV y h'.cs.length := fun q y hq => by
        obtain ⟨l2, hl2⟩ : ∃ l2, ll[q]? = some l2 := ⟨_, List.getElem?_eq_getElem (by have := (List.getElem?_eq_some_iff.1 hq).1; omega)⟩
        exact (hrows q y l2 hq hl2).1.lt
      rcases get_snoc hz with ⟨hj, hz1⟩ | ⟨e, hz1⟩ <;> rcases get_snoc hz' with ⟨hj', hz2⟩ | ⟨e', hz2⟩
      · exact hap j j' z z' hz1 hz2 hne
      · rw [hz2]; exact apart_lt_ge (hlt' j z hz1) hu.ge
      · rw [hz1]; exact (apart_lt_ge (hlt' j' z' hz2) hu.ge).symm
      · omega
  · have e : i.toNat = ll.length := by omega
    rw [e, Nat.sub_self, List.replicate_zero, List.append_nil] at hO
    exact ⟨us, hO, by omega, fun j u l a b => (hrows j u l a b).1, hap, fun j u hu => by
      obtain ⟨l, hlj⟩ : ∃ l, ll[j]? = some l := ⟨_, List.getElem?_eq_getElem (by have := (List.getElem?_eq_some_iff.1 hu).1; omega)⟩
      have hg := (hrows j u l hu hlj).2
      intro b o m c b' o' m' c' e1 e2
      cases e1
      have := hg _ _ _ _ e2
      omega⟩

theorem totL_mem : ∀ {ll : List (List Int)} {l : List Int}, l ∈ ll → (l.length : Int) ≤ totL ll
  | x :: ll, l, h => by
    have := totL_nn ll
    rcases List.mem_cons.1 h with rfl | h
    · simp only [totL]; omega
    · have := totL_mem h
      simp only [totL]; omega

theorem eqIntSS_same (ll : List (List Int)) (v v' : AV) (vs vs' : List AV) (h : AH) (hR : RdSS h v ll vs) (hR' : RdSS h v' ll vs') (hll : ll.length ≤ 4611686018427387904) (hl : ∀ l ∈ ll, l.length ≤ 4611686018427387904) :
    AC Try.prog 14 [v, v'] h (fun r h' => r = .b true ∧ h = h') := (eqIntSS_ac ll ll v v' vs vs' h hR hR' hll hl).mono fun r h' H => by simpa using H

def ssI (v : AV) (us : List AV) (ll : List (List Int)) : List It := .sl v 1 (us.flatMap enV) :: (rowsI us ll ++ [])

/-! ### The same of the program -/
theorem IndexFuncSS_ac (ll : List (List Int)) (us : List AV) (v : AV) (g : FuncId) (caps : List AV) (q : List Int → Bool) (h : AH) (hR : RdG 1 enV h v us) (hlen : us.length = ll.length) (hl : us.length ≤ 4611686018427387904)
    (hp : ∀ (i : Nat) (u : AV) (x : List Int), us[i]? = some u → ll[i]? = some x → ∀ h', h.le h' → AC Try.prog g (u :: caps) h' (fun r h'' => r = .b (q x) ∧ h'.le h'')) :
    AC Try.prog 87 [v, .f g caps] h (fun r h' => r = .i .i64 (idxFrom q ll 0) ∧ h.le h') := by
  refine e87 _ _ fun wf => ?_
  unfold c87
  refine LI_start wf ?_
  refine W ?_
  refine LIL_ind (fun n a L => ∃ (i : Int), (∃ r : Nat → AV, a = [v, .f g caps, r 2, r 3, r 4, r 5, v, .i .i64 us.length, .i .i64 i, r 9, r 10, r 11, r 12, r 13, r 14, r 15, r 16, r 17, r 18]) ∧ L = [] ∧ 0 ≤ i ∧ i + n = us.length ∧ idxFrom q ll 0 = idxFrom q (ll.drop i.toNat) i)
    us.length ⟨0, exJ rfl, rfl, by omega, by omega, rfl⟩ ?_
  rintro n a L ⟨i, ⟨r, rfl⟩, rfl, h0, hn, hidx⟩ IH
  refine W ?_
  (first | refine LS_gt rfl ?_ ?_ | refine LS_gf rfl ?_ ?_ | refine LI_cond rfl ?_ ?_) <;> intro hc <;> have hc' := hc <;> try simp only [decide_eq_true_eq, decide_eq_false_iff_not, Bool.not_eq_true', Bool.not_eq_false', Bool.not_eq_true, Bool.not_eq_false, beq_iff_eq, bne_iff_ne, beq_eq_false_iff_ne, bne_eq_false_iff_eq, Int.not_lt, Int.not_le, ge_iff_le, gt_iff_lt, not_and, ne_eq, Decidable.not_not] at hc'
  all_goals (try (dsimp only [st, setL, AV.cells, List.set_cons_zero, List.set_cons_succ, List.drop_zero, List.drop_succ_cons, List.take_zero, List.take_succ_cons, Nat.zero_add, Nat.add_zero, Nat.reduceAdd, List.cons_append, List.nil_append, List.eraseIdx_cons_zero, List.eraseIdx_cons_succ]))
  all_goals (refine W ?_)
  · obtain ⟨u, hu, _, _⟩ := drop_at (l := us) h0 hc'
    obtain ⟨y, hy, hym, hd⟩ := drop_at (l := ll) h0 (by omega)
    rw [hd] at hidx
    refine LS_ix (fun h' HL => hR.le HL.le) enV1 hu h0 rfl rfl fun b o hrow => ?_
    try (dsimp only [st, setL, AV.cells, List.set_cons_zero, List.set_cons_succ, List.drop_zero, List.drop_succ_cons, List.take_zero, List.take_succ_cons, Nat.zero_add, Nat.add_zero, Nat.reduceAdd, List.cons_append, List.nil_append, List.eraseIdx_cons_zero, List.eraseIdx_cons_succ])
    refine W ?_
    refine LS_c0 (fun h' HL wf => hp i.toNat u y hu hy h' HL.le) rfl rfl ?_
    try (dsimp only [st, setL, AV.cells, List.set_cons_zero, List.set_cons_succ, List.drop_zero, List.drop_succ_cons, List.take_zero, List.take_succ_cons, Nat.zero_add, Nat.add_zero, Nat.reduceAdd, List.cons_append, List.nil_append, List.eraseIdx_cons_zero, List.eraseIdx_cons_succ])
    refine W ?_
    (first | refine LS_gt rfl ?_ ?_ | refine LS_gf rfl ?_ ?_ | refine LI_cond rfl ?_ ?_) <;> intro hc <;> have hc' := hc <;> try simp only [decide_eq_true_eq, decide_eq_false_iff_not, Bool.not_eq_true', Bool.not_eq_false', Bool.not_eq_true, Bool.not_eq_false, beq_iff_eq, bne_iff_ne, beq_eq_false_iff_ne, bne_eq_false_iff_eq, Int.not_lt, Int.not_le, ge_iff_le, gt_iff_lt, not_and, ne_eq, Decidable.not_not] at hc'
    all_goals (try (dsimp only [st, setL, AV.cells, List.set_cons_zero, List.set_cons_succ, List.drop_zero, List.drop_succ_cons, List.take_zero, List.take_succ_cons, Nat.zero_add, Nat.add_zero, Nat.reduceAdd, List.cons_append, List.nil_append, List.eraseIdx_cons_zero, List.eraseIdx_cons_succ]))
    all_goals (refine W ?_)
    · refine RET fun h' HL => ?_
      try dsimp only [oneA]
      refine ⟨?_, HL.le⟩
      rw [hidx]
      simp [idxFrom, hc]
    · refine IH (n - 1) _ _ (by omega) ⟨i + 1, exJ rfl, rfl, by omega, by omega, ?_⟩
      rw [hidx, toNat_succ h0]
      simp [idxFrom, hc]
  · refine RET fun h' HL => ?_
    try dsimp only [oneA]
    refine ⟨?_, HL.le⟩
    rw [hidx, List.drop_eq_nil_of_le (by omega)]
    rfl

theorem ContainsFuncSS_ac (ll : List (List Int)) (us : List AV) (v : AV) (g : FuncId) (caps : List AV) (q : List Int → Bool) (h : AH) (hR : RdG 1 enV h v us) (hlen : us.length = ll.length) (hl : us.length ≤ 4611686018427387904)
    (hp : ∀ (i : Nat) (u : AV) (x : List Int), us[i]? = some u → ll[i]? = some x → ∀ h', h.le h' → AC Try.prog g (u :: caps) h' (fun r h'' => r = .b (q x) ∧ h'.le h'')) :
    AC Try.prog 69 [v, .f g caps] h (fun r h' => r = .b (ll.any q) ∧ h.le h') := by
  refine e69 _ _ fun wf => ?_
  unfold c69
  refine LI_start wf ?_
  refine W ?_
  refine LS_c0 (fun h' HL wf => IndexFuncSS_ac ll us v g caps q h' (hR.le HL.le) hlen hl (fun i u x hu hx h2 hle => hp i u x hu hx h2 (HL.le.trans hle))) rfl rfl ?_
  try (dsimp only [st, setL, AV.cells, List.set_cons_zero, List.set_cons_succ, List.drop_zero, List.drop_succ_cons, List.take_zero, List.take_succ_cons, Nat.zero_add, Nat.add_zero, Nat.reduceAdd, List.cons_append, List.nil_append, List.eraseIdx_cons_zero, List.eraseIdx_cons_succ])
  refine W ?_
  refine RET fun h' HL => ?_
  try dsimp only [oneA]
  refine ⟨?_, HL.le⟩
  simp only [← idxFrom_any q ll 0 (by omega), ge_iff_le]

structure PlP (h : AH) (b : Nat) (p : PlanM) (vs vo : AV) : Prop where
  row : h.row b 0 3 = some [.i .i64 p.n, vs, vo]
  steps : RdG 2 enStep h vs p.steps
  outs : Rd h vo p.outs

theorem PlP.le {h h' : AH} {b : Nat} {p : PlanM} {vs vo : AV} (H : PlP h b p vs vo) (hle : h.le h') : PlP h' b p vs vo := ⟨hle.row H.row, H.steps.le hle, H.outs.le hle⟩

theorem PlP.frz {h : AH} {b : Nat} {p : PlanM} {vs vo : AV} (H : PlP h b p vs vo) : PlP h.frz b p vs vo := ⟨H.row, H.steps.frz, H.outs.frz⟩

theorem l1Has_ac (l : List Int) (v : AV) (x : Int) (h : AH) (hR : Rd h v l) (hl : l.length ≤ 4611686018427387904) : AC Try.prog 86 [v, .i .i64 x] h (fun r h' => r = .b (l.any fun y => y == x) ∧ h.le h') := by
  refine e86 _ _ fun wf => ?_
  unfold c86
  refine LI_start wf ?_
  refine W ?_
  refine LIL_ind (fun n a L => ∃ (i : Int), (∃ r : Nat → AV, a = [r 0, .i .i64 x, r 2, r 3, r 4, r 5, r 6, v, .i .i64 l.length, .i .i64 i, r 10, r 11, r 12, r 13, r 14, r 15, r 16]) ∧ L = [] ∧ 0 ≤ i ∧ i + n = l.length ∧ (l.any fun y => y == x) = ((l.drop i.toNat).any fun y => y == x))
    l.length ⟨0, exJ rfl, rfl, by omega, by omega, rfl⟩ ?_
  rintro n a L ⟨i, ⟨r, rfl⟩, rfl, h0, hn, heq⟩ IH
  refine W ?_
  (first | refine LS_gt rfl ?_ ?_ | refine LS_gf rfl ?_ ?_ | refine LI_cond rfl ?_ ?_) <;> intro hc <;> have hc' := hc <;> try simp only [decide_eq_true_eq, decide_eq_false_iff_not, Bool.not_eq_true', Bool.not_eq_false', Bool.not_eq_true, Bool.not_eq_false, beq_iff_eq, bne_iff_ne, beq_eq_false_iff_ne, bne_eq_false_iff_eq, Int.not_lt, Int.not_le, ge_iff_le, gt_iff_lt, not_and, ne_eq, Decidable.not_not] at hc'
  all_goals (try (dsimp only [st, setL, AV.cells, List.set_cons_zero, List.set_cons_succ, List.drop_zero, List.drop_succ_cons, List.take_zero, List.take_succ_cons, Nat.zero_add, Nat.add_zero, Nat.reduceAdd, List.cons_append, List.nil_append, List.eraseIdx_cons_zero, List.eraseIdx_cons_succ]))
  all_goals (refine W ?_)
  · obtain ⟨y, hy, hym, hd⟩ := drop_at h0 hc'
    rw [hd, List.any_cons] at heq
    refine LS_ix (fun h' HL => hR.le HL.le) enI1 hy h0 rfl rfl fun b o hrow => ?_
    try (dsimp only [st, setL, AV.cells, List.set_cons_zero, List.set_cons_succ, List.drop_zero, List.drop_succ_cons, List.take_zero, List.take_succ_cons, Nat.zero_add, Nat.add_zero, Nat.reduceAdd, List.cons_append, List.nil_append, List.eraseIdx_cons_zero, List.eraseIdx_cons_succ])
    refine W ?_
    (first | refine LS_gt rfl ?_ ?_ | refine LS_gf rfl ?_ ?_ | refine LI_cond rfl ?_ ?_) <;> intro hc <;> have hc' := hc <;> try simp only [decide_eq_true_eq, decide_eq_false_iff_not, Bool.not_eq_true', Bool.not_eq_false', Bool.not_eq_true, Bool.not_eq_false, beq_iff_eq, bne_iff_ne, beq_eq_false_iff_ne, bne_eq_false_iff_eq, Int.not_lt, Int.not_le, ge_iff_le, gt_iff_lt, not_and, ne_eq, Decidable.not_not] at hc'
    all_goals (try (dsimp only [st, setL, AV.cells, List.set_cons_zero, List.set_cons_succ, List.drop_zero, List.drop_succ_cons, List.take_zero, List.take_succ_cons, Nat.zero_add, Nat.add_zero, Nat.reduceAdd, List.cons_append, List.nil_append, List.eraseIdx_cons_zero, List.eraseIdx_cons_succ]))
    all_goals (refine W ?_)
    · rw [heq, hc]
      refine RET fun h' HL => ?_
      try dsimp only [oneA]
      exact ⟨rfl, HL.le⟩
    · refine IH (n - 1) _ _ (by omega) ⟨i + 1, exJ rfl, rfl, by omega, by omega, ?_⟩
      rw [heq, hc, Bool.false_or, toNat_succ h0]
  · rw [heq, List.drop_eq_nil_of_le (by omega)]
    refine RET fun h' HL => ?_
    try dsimp only [oneA]
    exact ⟨rfl, HL.le⟩

def iotaI (n : Nat) : List Int := (List.range n).map Int.ofNat

theorem iotaI_succ (n : Nat) : iotaI (n + 1) = iotaI n ++ [(n : Int)] := by simp [iotaI, List.range_succ]

theorem firsts_ac (k : Int) (h : AH) (wf : h.wf) (h0 : 0 ≤ k) (h1 : k ≤ 1048576) : AC Try.prog 54 [.i .i64 k] h (fun r h' => AL.Own h 1 enI h' r (iotaI k.toNat)) := by
  clear wf
  refine e54 _ fun wf => ?_
  unfold c54
  refine LI_start wf ?_
  refine W ?_
  refine LS_lt ([] : List Int) rfl rfl (by decide) rfl rfl rfl rfl enI1 rfl rfl fun lit3 hlit3 slit3 => ?_
  try (dsimp only [st, setL, AV.cells, List.set_cons_zero, List.set_cons_succ, List.drop_zero, List.drop_succ_cons, List.take_zero, List.take_succ_cons, Nat.zero_add, Nat.add_zero, Nat.reduceAdd, List.cons_append, List.nil_append, List.eraseIdx_cons_zero, List.eraseIdx_cons_succ])
  refine W ?_
  refine LIL_ind (fun n a L => ∃ (x : Int) (o : AV), (∃ r : Nat → AV, a = [r 0, r 1, r 2, o, r 4, r 5, .i .i64 k, .i .i64 x, r 8, r 9, r 10, r 11, r 12, r 13, r 14, r 15]) ∧ L = [.sl o 1 ((iotaI x.toNat).flatMap enI)] ∧ 0 ≤ x ∧ x + n = k)
    k.toNat ⟨0, _, exJ rfl, rfl, by omega, by omega⟩ ?_
  rintro n a L ⟨x, o, ⟨r, rfl⟩, rfl, hx0, hn⟩ IH
  have hxx : ((x.toNat : Nat) : Int) = x := by omega
  have hil : (iotaI x.toNat).length = x.toNat := by simp [iotaI]
  refine W ?_
  (first | refine LS_gt rfl ?_ ?_ | refine LS_gf rfl ?_ ?_ | refine LI_cond rfl ?_ ?_) <;> intro hc <;> have hc' := hc <;> try simp only [decide_eq_true_eq, decide_eq_false_iff_not, Bool.not_eq_true', Bool.not_eq_false', Bool.not_eq_true, Bool.not_eq_false, beq_iff_eq, bne_iff_ne, beq_eq_false_iff_ne, bne_eq_false_iff_eq, Int.not_lt, Int.not_le, ge_iff_le, gt_iff_lt, not_and, ne_eq, Decidable.not_not] at hc'
  all_goals (try (dsimp only [st, setL, AV.cells, List.set_cons_zero, List.set_cons_succ, List.drop_zero, List.drop_succ_cons, List.take_zero, List.take_succ_cons, Nat.zero_add, Nat.add_zero, Nat.reduceAdd, List.cons_append, List.nil_append, List.eraseIdx_cons_zero, List.eraseIdx_cons_succ]))
  all_goals (refine W ?_)
  · refine LS_lt [x] rfl rfl (by decide) rfl rfl rfl rfl enI1 rfl rfl fun lit7 hlit7 slit7 => ?_
    try (dsimp only [st, setL, AV.cells, List.set_cons_zero, List.set_cons_succ, List.drop_zero, List.drop_succ_cons, List.take_zero, List.take_succ_cons, Nat.zero_add, Nat.add_zero, Nat.reduceAdd, List.cons_append, List.nil_append, List.eraseIdx_cons_zero, List.eraseIdx_cons_succ])
    refine W ?_
    refine LS_ap 1 rfl (fun h' HL => HL.rdI 0 rfl enI1 (by decide)) enI1 (by decide) (by simp) (by simp; omega) (by simp; omega) rfl rfl rfl fun w8 hw8 sw8 => ?_
    try (dsimp only [st, setL, AV.cells, List.set_cons_zero, List.set_cons_succ, List.drop_zero, List.drop_succ_cons, List.take_zero, List.take_succ_cons, Nat.zero_add, Nat.add_zero, Nat.reduceAdd, List.cons_append, List.nil_append, List.eraseIdx_cons_zero, List.eraseIdx_cons_succ])
    refine W ?_
    refine LIL_drop 1 ?_
    refine IH (n - 1) _ _ (by omega) ⟨x + 1, _, exJ rfl, by rw [toNat_succ hx0, iotaI_succ, hxx]; rfl, by omega, by omega⟩
  · have ex : x = k := by omega
    subst ex
    refine RET fun h' HL => ?_
    try dsimp only [oneA]
    exact HL.ownI 0 rfl enI1 (by decide)

def r0 (ll : List (List Int)) : List Int := ll.headD []

theorem r0_get {ll : List (List Int)} (h : 0 < ll.length) : ll[0]? = some (r0 ll) := by
  cases ll with
  | nil => simp at h
  | cons x l => rfl

def pickM {α : Type} (l : List α) (ix : List Int) : List α := ix.filterMap fun i => l[i.toNat]?

theorem pickM_len {α : Type} (l : List α) (ix : List Int) : (pickM l ix).length ≤ ix.length := List.length_filterMap_le _ _

theorem moPick_ac (l ix : List Int) (v w : AV) (h : AH) (hl : Rd h v l) (ho : Rd h w ix) (ho1 : ix.length ≤ 1048576) (hob : ∀ i ∈ ix, 0 ≤ i ∧ i < l.length) :
    AC Try.prog 68 [v, w] h (fun r h' => AL.Own h 1 enI h' r (pickM l ix)) := by
  refine e68 _ _ fun wf => ?_
  unfold c68
  refine LI_start wf ?_
  refine W ?_
  refine LIL_nl (k := 1) ?_
  refine LIL_ind (fun n a L => ∃ (i : Int) (u : AV), (∃ r : Nat → AV, a = [v, r 1, r 2, r 3, r 4, u, r 6, r 7, w, .i .i64 ix.length, .i .i64 i, r 11, r 12, r 13, r 14, r 15, r 16, r 17, r 18, r 19, r 20, r 21, r 22]) ∧ L = [.sl u 1 ((pickM l (ix.take i.toNat)).flatMap enI)] ∧ 0 ≤ i ∧ i + n = ix.length)
    ix.length ⟨0, _, exJ rfl, rfl, by omega, by omega⟩ ?_
  rintro n a L ⟨i, u, ⟨r, rfl⟩, rfl, h0, hn⟩ IH
  have hel := pickM_len l (ix.take i.toNat)
  rw [List.length_take] at hel
  refine W ?_
  (first | refine LS_gt rfl ?_ ?_ | refine LS_gf rfl ?_ ?_ | refine LI_cond rfl ?_ ?_) <;> intro hc <;> have hc' := hc <;> try simp only [decide_eq_true_eq, decide_eq_false_iff_not, Bool.not_eq_true', Bool.not_eq_false', Bool.not_eq_true, Bool.not_eq_false, beq_iff_eq, bne_iff_ne, beq_eq_false_iff_ne, bne_eq_false_iff_eq, Int.not_lt, Int.not_le, ge_iff_le, gt_iff_lt, not_and, ne_eq, Decidable.not_not] at hc'
  all_goals (try (dsimp only [st, setL, AV.cells, List.set_cons_zero, List.set_cons_succ, List.drop_zero, List.drop_succ_cons, List.take_zero, List.take_succ_cons, Nat.zero_add, Nat.add_zero, Nat.reduceAdd, List.cons_append, List.nil_append, List.eraseIdx_cons_zero, List.eraseIdx_cons_succ]))
  all_goals (refine W ?_)
  · obtain ⟨y, hy, hym, hd⟩ := drop_at (l := ix) h0 hc'
    have hyb := hob y hym
    have l1 : y.toNat < l.length := by omega
    have g1 : l[y.toNat]? = some l[y.toNat] := List.getElem?_eq_getElem l1
    have e : pickM l (ix.take (i + 1).toNat) = pickM l (ix.take i.toNat) ++ [l[y.toNat]] := by
      rw [toNat_succ h0, take_snoc hy, pickM, List.filterMap_append]
      simp [g1, pickM]
    refine LS_ix (fun h' HL => ho.le HL.le) enI1 hy h0 rfl rfl fun q1 o1 hrow1 => ?_
    try (dsimp only [st, setL, AV.cells, List.set_cons_zero, List.set_cons_succ, List.drop_zero, List.drop_succ_cons, List.take_zero, List.take_succ_cons, Nat.zero_add, Nat.add_zero, Nat.reduceAdd, List.cons_append, List.nil_append, List.eraseIdx_cons_zero, List.eraseIdx_cons_succ])
    refine W ?_
    refine LS_ix (fun h' HL => hl.le HL.le) enI1 g1 hyb.1 rfl rfl fun q2 o2 hrow2 => ?_
    try (dsimp only [st, setL, AV.cells, List.set_cons_zero, List.set_cons_succ, List.drop_zero, List.drop_succ_cons, List.take_zero, List.take_succ_cons, Nat.zero_add, Nat.add_zero, Nat.reduceAdd, List.cons_append, List.nil_append, List.eraseIdx_cons_zero, List.eraseIdx_cons_succ])
    refine W ?_
    refine LS_lt [l[y.toNat]] rfl rfl (by decide) rfl rfl rfl rfl enI1 rfl rfl fun lit4 hlit4 slit4 => ?_
    try (dsimp only [st, setL, AV.cells, List.set_cons_zero, List.set_cons_succ, List.drop_zero, List.drop_succ_cons, List.take_zero, List.take_succ_cons, Nat.zero_add, Nat.add_zero, Nat.reduceAdd, List.cons_append, List.nil_append, List.eraseIdx_cons_zero, List.eraseIdx_cons_succ])
    refine W ?_
    refine LS_ap 1 rfl (fun h' HL => HL.rdI 0 rfl enI1 (by decide)) enI1 (by decide) (by simp) (by simp; omega) (by simp; omega) rfl rfl rfl fun w5 hw5 sw5 => ?_
    try (dsimp only [st, setL, AV.cells, List.set_cons_zero, List.set_cons_succ, List.drop_zero, List.drop_succ_cons, List.take_zero, List.take_succ_cons, Nat.zero_add, Nat.add_zero, Nat.reduceAdd, List.cons_append, List.nil_append, List.eraseIdx_cons_zero, List.eraseIdx_cons_succ])
    refine W ?_
    refine LIL_drop 1 ?_
    refine IH (n - 1) _ _ (by omega) ⟨i + 1, _, exJ rfl, by rw [e]; rfl, by omega, by omega⟩
  · have ei : i.toNat = ix.length := by omega
    rw [ei, List.take_length]
    refine RET fun h' HL => ?_
    try dsimp only [oneA]
    exact HL.ownI 0 rfl enI1 (by decide)

theorem renamed_ac (l ix : List Int) (v w : AV) (h : AH) (hl : Rd h v l) (ho : Rd h w ix) (ho1 : ix.length ≤ 1048576) (hob : ∀ i ∈ ix, 0 ≤ i ∧ i < l.length) :
    AC Try.prog 71 [w, v] h (fun r h' => AL.Own h 1 enI h' r (pickM l ix)) := by
  refine e71 _ _ fun wf => ?_
  unfold c71
  refine LI_start wf ?_
  refine W ?_
  refine LS_lt ([] : List Int) rfl rfl (by decide) rfl rfl rfl rfl enI1 rfl rfl fun lit3 hlit3 slit3 => ?_
  try (dsimp only [st, setL, AV.cells, List.set_cons_zero, List.set_cons_succ, List.drop_zero, List.drop_succ_cons, List.take_zero, List.take_succ_cons, Nat.zero_add, Nat.add_zero, Nat.reduceAdd, List.cons_append, List.nil_append, List.eraseIdx_cons_zero, List.eraseIdx_cons_succ])
  refine W ?_
  refine LIL_ind (fun n a L => ∃ (i : Int) (u : AV), (∃ r : Nat → AV, a = [r 0, v, r 2, r 3, r 4, u, r 6, r 7, r 8, w, .i .i64 ix.length, .i .i64 i, r 12, r 13, r 14, r 15, r 16, r 17, r 18, r 19, r 20, r 21, r 22, r 23]) ∧ L = [.sl u 1 ((pickM l (ix.take i.toNat)).flatMap enI)] ∧ 0 ≤ i ∧ i + n = ix.length)
    ix.length ⟨0, _, exJ rfl, rfl, by omega, by omega⟩ ?_
  rintro n a L ⟨i, u, ⟨r, rfl⟩, rfl, h0, hn⟩ IH
  have hel := pickM_len l (ix.take i.toNat)
  rw [List.length_take] at hel
  refine W ?_
  (first | refine LS_gt rfl ?_ ?_ | refine LS_gf rfl ?_ ?_ | refine LI_cond rfl ?_ ?_) <;> intro hc <;> have hc' := hc <;> try simp only [decide_eq_true_eq, decide_eq_false_iff_not, Bool.not_eq_true', Bool.not_eq_false', Bool.not_eq_true, Bool.not_eq_false, beq_iff_eq, bne_iff_ne, beq_eq_false_iff_ne, bne_eq_false_iff_eq, Int.not_lt, Int.not_le, ge_iff_le, gt_iff_lt, not_and, ne_eq, Decidable.not_not] at hc'
  all_goals (try (dsimp only [st, setL, AV.cells, List.set_cons_zero, List.set_cons_succ, List.drop_zero, List.drop_succ_cons, List.take_zero, List.take_succ_cons, Nat.zero_add, Nat.add_zero, Nat.reduceAdd, List.cons_append, List.nil_append, List.eraseIdx_cons_zero, List.eraseIdx_cons_succ]))
  all_goals (refine W ?_)
  · obtain ⟨y, hy, hym, hd⟩ := drop_at (l := ix) h0 hc'
    have hyb := hob y hym
    have l1 : y.toNat < l.length := by omega
    have g1 : l[y.toNat]? = some l[y.toNat] := List.getElem?_eq_getElem l1
    have e : pickM l (ix.take (i + 1).toNat) = pickM l (ix.take i.toNat) ++ [l[y.toNat]] := by
      rw [toNat_succ h0, take_snoc hy, pickM, List.filterMap_append]
      simp [g1, pickM]
    refine LS_ix (fun h' HL => ho.le HL.le) enI1 hy h0 rfl rfl fun q1 o1 hrow1 => ?_
    try (dsimp only [st, setL, AV.cells, List.set_cons_zero, List.set_cons_succ, List.drop_zero, List.drop_succ_cons, List.take_zero, List.take_succ_cons, Nat.zero_add, Nat.add_zero, Nat.reduceAdd, List.cons_append, List.nil_append, List.eraseIdx_cons_zero, List.eraseIdx_cons_succ])
    refine W ?_
    refine LS_ix (fun h' HL => hl.le HL.le) enI1 g1 hyb.1 rfl rfl fun q2 o2 hrow2 => ?_
    try (dsimp only [st, setL, AV.cells, List.set_cons_zero, List.set_cons_succ, List.drop_zero, List.drop_succ_cons, List.take_zero, List.take_succ_cons, Nat.zero_add, Nat.add_zero, Nat.reduceAdd, List.cons_append, List.nil_append, List.eraseIdx_cons_zero, List.eraseIdx_cons_succ])
    refine W ?_
    refine LS_lt [l[y.toNat]] rfl rfl (by decide) rfl rfl rfl rfl enI1 rfl rfl fun lit4 hlit4 slit4 => ?_
    try (dsimp only [st, setL, AV.cells, List.set_cons_zero, List.set_cons_succ, List.drop_zero, List.drop_succ_cons, List.take_zero, List.take_succ_cons, Nat.zero_add, Nat.add_zero, Nat.reduceAdd, List.cons_append, List.nil_append, List.eraseIdx_cons_zero, List.eraseIdx_cons_succ])
    refine W ?_
    refine LS_ap 1 rfl (fun h' HL => HL.rdI 0 rfl enI1 (by decide)) enI1 (by decide) (by simp) (by simp; omega) (by simp; omega) rfl rfl rfl fun w5 hw5 sw5 => ?_
    try (dsimp only [st, setL, AV.cells, List.set_cons_zero, List.set_cons_succ, List.drop_zero, List.drop_succ_cons, List.take_zero, List.take_succ_cons, Nat.zero_add, Nat.add_zero, Nat.reduceAdd, List.cons_append, List.nil_append, List.eraseIdx_cons_zero, List.eraseIdx_cons_succ])
    refine W ?_
    refine LIL_drop 1 ?_
    refine IH (n - 1) _ _ (by omega) ⟨i + 1, _, exJ rfl, by rw [e]; rfl, by omega, by omega⟩
  · have ei : i.toNat = ix.length := by omega
    rw [ei, List.take_length]
    refine RET fun h' HL => ?_
    try dsimp only [oneA]
    exact HL.ownI 0 rfl enI1 (by decide)

def chB (lo m : Int) (c : List Int) : Prop := ∀ x ∈ c, lo ≤ x ∧ x ≤ m

theorem chB.mono {lo m lo' m' : Int} {c : List Int} (h : chB lo m c) (h0 : lo' ≤ lo) (h1 : m ≤ m') : chB lo' m' c := fun x hx => by have := h x hx; omega

theorem chB.set {lo m : Int} {c : List Int} {z : Int} (h : chB lo m c) (i : Nat) (h0 : lo ≤ z) (h1 : z ≤ m) : chB lo m (c.set i z) := fun x hx => by
  rcases List.mem_or_eq_of_mem_set hx with hx | rfl
  · exact h x hx
  · exact ⟨h0, h1⟩

structure TS (ws0 : List (Int × List Int)) (s : List Int × List (Int × List Int)) (B : Nat) : Prop where
  nl : s.1.length ≤ B
  nb : ∀ n ∈ s.1, 0 ≤ n ∧ n ≤ 256
  pre : ∃ t, s.2 = ws0 ++ t
  wb : ∀ p ∈ s.2, 1 ≤ p.2.length ∧ p.2.length ≤ 14 ∧ ∀ x ∈ p.2, 0 ≤ x ∧ x ≤ 256

theorem TS.mono {ws0 : List (Int × List Int)} {s : List Int × List (Int × List Int)} {B B' : Nat} (H : TS ws0 s B) (h : B ≤ B') : TS ws0 s B' := ⟨Nat.le_trans H.nl h, H.nb, H.pre, H.wb⟩

/-! ### A slice of ints sorted by the library -/
open Go.Shelf in
def Try.mSort_ren : Go.Shelf.Ren := ⟨fun | 5 => 90 | 8 => 98 | 7 => 97 | 19 => 110 | 20 => 111 | 10 => 101 | 11 => 102 | 12 => 103 | 13 => 104 | 14 => 105 | 15 => 106 | 16 => 107 | 17 => 108 | 18 => 109 | 30 => 112 | 31 => 113 | 32 => 114 | 33 => 115 | 34 => 116 | 35 => 117 | 40 => 118 | n => n, fun | 23 => 31 | 25 => 3 | 3 => 3 | 32 => 97 | 22 => 31 | 0 => 0 | 44 => 111 | 46 => 61 | 4 => 4 | 36 => 105 | 35 => 104 | 41 => 41 | 5 => 5 | 9 => 9 | 53 => 113 | 57 => 117 | 63 => 119 | 64 => 120 | n => n, fun | n => n⟩
open Go.Shelf in
theorem Try.mSort : Go.Proofs.SlLaysM.n5 Try.prog Try.mSort_ren := {
  mixed := by kernel_rfl
  f5 := ⟨Try.f90.name, by decide, Try.func90.trans (congrArg some (by kernel_rfl))⟩
  f7 := ⟨Try.f97.name, by decide, Try.func97.trans (congrArg some (by kernel_rfl))⟩
  f8 := Try.func98.trans (congrArg some (by kernel_rfl))
  f10 := ⟨Try.f101.name, by decide, Try.func101.trans (congrArg some (by kernel_rfl))⟩
  f11 := ⟨Try.f102.name, by decide, Try.func102.trans (congrArg some (by kernel_rfl))⟩
  f12 := ⟨Try.f103.name, by decide, Try.func103.trans (congrArg some (by kernel_rfl))⟩
  f13 := ⟨Try.f104.name, by decide, Try.func104.trans (congrArg some (by kernel_rfl))⟩
  f14 := ⟨Try.f105.name, by decide, Try.func105.trans (congrArg some (by kernel_rfl))⟩
  f15 := ⟨Try.f106.name, by decide, Try.func106.trans (congrArg some (by kernel_rfl))⟩
  f16 := ⟨Try.f107.name, by decide, Try.func107.trans (congrArg some (by kernel_rfl))⟩
  f17 := ⟨Try.f108.name, by decide, Try.func108.trans (congrArg some (by kernel_rfl))⟩
  f18 := ⟨Try.f109.name, by decide, Try.func109.trans (congrArg some (by kernel_rfl))⟩
  f19 := Try.func110.trans (congrArg some (by kernel_rfl))
  f20 := Try.func111.trans (congrArg some (by kernel_rfl))
  f30 := ⟨Try.f112.name, by decide, Try.func112.trans (congrArg some (by kernel_rfl))⟩
  f31 := Try.func113.trans (congrArg some (by kernel_rfl))
  f32 := Try.func114.trans (congrArg some (by kernel_rfl))
  f33 := ⟨Try.f115.name, by decide, Try.func115.trans (congrArg some (by kernel_rfl))⟩
  f34 := ⟨Try.f116.name, by decide, Try.func116.trans (congrArg some (by kernel_rfl))⟩
  f35 := ⟨Try.f117.name, by decide, Try.func117.trans (congrArg some (by kernel_rfl))⟩
  f40 := ⟨Try.f118.name, by decide, Try.func118.trans (congrArg some (by kernel_rfl))⟩
  t0 := Try.underlying0
  a0 := Try.isAgg0
  z0 := Try.sizeOf0
  v0 := Try.zeroValue0
  t3 := Try.underlying3
  a3 := Try.isAgg3
  z3 := Try.sizeOf3
  v3 := Try.zeroValue3
  t4 := Try.underlying4
  a4 := Try.isAgg4
  z4 := Try.sizeOf4
  v4 := Try.zeroValue4
  t5 := Try.underlying5
  a5 := Try.isAgg5
  z5 := Try.sizeOf5
  v5 := Try.zeroValue5
  t9 := Try.underlying9
  a9 := Try.isAgg9
  z9 := Try.sizeOf9
  v9 := Try.zeroValue9
  t22 := Try.underlying31
  a22 := Try.isAgg31
  z22 := Try.sizeOf31
  v22 := Try.zeroValue31
  t23 := Try.underlying31
  a23 := Try.isAgg31
  z23 := Try.sizeOf31
  v23 := Try.zeroValue31
  t25 := Try.underlying3
  a25 := Try.isAgg3
  z25 := Try.sizeOf3
  v25 := Try.zeroValue3
  t32 := Try.underlying97
  a32 := Try.isAgg97
  z32 := Try.sizeOf97
  v32 := Try.zeroValue97
  t35 := Try.underlying104
  a35 := Try.isAgg104
  z35 := Try.sizeOf104
  v35 := Try.zeroValue104
  t36 := Try.underlying105
  a36 := Try.isAgg105
  z36 := Try.sizeOf105
  v36 := Try.zeroValue105
  t41 := Try.underlying41
  a41 := Try.isAgg41
  z41 := Try.sizeOf41
  v41 := Try.zeroValue41
  t44 := Try.underlying111
  a44 := Try.isAgg111
  z44 := Try.sizeOf111
  v44 := Try.zeroValue111
  t46 := Try.underlying61
  a46 := Try.isAgg61
  z46 := Try.sizeOf61
  v46 := Try.zeroValue61
  t53 := Try.underlying113
  a53 := Try.isAgg113
  z53 := Try.sizeOf113
  v53 := Try.zeroValue113
  t57 := Try.underlying117
  a57 := Try.isAgg117
  z57 := Try.sizeOf117
  v57 := Try.zeroValue117
  t63 := Try.underlying119
  a63 := Try.isAgg119
  z63 := Try.sizeOf119
  v63 := Try.zeroValue119
  t64 := Try.underlying120
  a64 := Try.isAgg120
  z64 := Try.sizeOf120
  v64 := Try.zeroValue120 }
theorem slSort_ac {h0 h : AH} {L : List It} {v : AV} {l : List Int} (HL : Loq h0 h (.sl v 1 (l.flatMap enI) :: L)) (hl : l.length < 4611686018427387904) :
    AC Try.prog 90 [v] h (fun r h' => ∃ M, (r = un ∧ M = .sl v 1 ((l.mergeSort fun x y => decide (x ≤ y)).flatMap enI) :: L) ∧ Loq h0 h' M) :=
  sort_ac ⟨_, Try.func90, by kernel_rfl, by kernel_rfl⟩ (fun blk off cap zs w hH hb hs => AnyM.slices_Sort_int Try.mSort blk off cap zs w hH hb hs) (fun p cap w => AnyM.slices_Sort_int_none Try.mSort p cap w) HL hl

/-! ### The ends of star chains: the laws -/
theorem nodup_len : ∀ (n : Nat) (l : List Nat), l.Nodup → (∀ j ∈ l, j < n) → l.length ≤ n
  | 0, l, _, h => by
    cases l with
    | nil => simp
    | cons x l => have := h x (by simp); omega
  | n + 1, l, hn, h => by
    by_cases hm : n ∈ l
    · have h1 := List.length_erase_of_mem hm
      have h2 := nodup_len n (l.erase n) (hn.erase n) (fun j hj => by
        have h3 := (List.Nodup.mem_erase_iff hn).1 hj
        have := h j h3.2
        have := h3.1
        omega)
      omega
    · have := nodup_len n l hn (fun j hj => by
        have h1 := h j hj
        have : j ≠ n := fun e => hm (e ▸ hj)
        omega)
      omega

/-! ### slices.Values, collected -/
open Go.Shelf in
def Try.mApp_ren : Go.Shelf.Ren := ⟨fun | 11 => 96 | n => n, fun | 24 => 31 | 26 => 3 | 28 => 85 | 0 => 0 | 33 => 65 | 4 => 4 | n => n, fun | n => n⟩
open Go.Shelf in
theorem Try.mApp : Go.Proofs.SlLaysZI.n11 Try.prog Try.mApp_ren := {
  mixed := by kernel_rfl
  f11 := ⟨Try.f96.name, by decide, Try.func96.trans (congrArg some (by kernel_rfl))⟩
  t0 := Try.underlying0
  a0 := Try.isAgg0
  z0 := Try.sizeOf0
  v0 := Try.zeroValue0
  t24 := Try.underlying31
  a24 := Try.isAgg31
  z24 := Try.sizeOf31
  v24 := Try.zeroValue31
  t26 := Try.underlying3
  a26 := Try.isAgg3
  z26 := Try.sizeOf3
  v26 := Try.zeroValue3
  t28 := Try.underlying85
  a28 := Try.isAgg85
  z28 := Try.sizeOf85
  v28 := Try.zeroValue85
  i26 := by kernel_rfl }
def uptoV (zs : List Int) (k : Nat) : List Int := (List.range k).map fun j => zs[j]?.getD 0

theorem uptoV_succ (zs : List Int) (k : Nat) : uptoV zs (k + 1) = uptoV zs k ++ [zs[k]?.getD 0] := by simp [uptoV, List.range_succ]

theorem uptoV_length (zs : List Int) (k : Nat) : (uptoV zs k).length = k := by simp [uptoV]

theorem uptoV_all (zs : List Int) : uptoV zs zs.length = zs := by
  apply List.ext_getElem
  · simp [uptoV]
  · intro i h1 h2
    simp [uptoV, h2]
open Go.RowKit Go.Shelf Go.Sort Go.Maps Go.Proofs in

attribute [local go_sem] Oper.semAt_some in
set_option maxHeartbeats 2000000 in
theorem values1_in (F : Fence) (n : Nat) (h7 : F.fn 91) (hro : F.round = none) (hn : 1 ≤ n) (l Bs bo n₀ b off len cap : Nat) (zs : List Int) (hreach : len * 8 ≤ 140737488351232) (hb : 0 < len → b < n₀) (J : List Int → World → Prop) (w0 : World) (hJb : ∀ pre W, J pre W → Below n₀ w0 W)
    (hY : ∀ pre x W, J pre W → pre.length < len → YieldAt F (n - 1) Try.prog l #[.int .i64 x] W fun e W' => e = .returned (.bool true) ∧ J (pre ++ [x]) W' ∧ KeepsWalks W W')
    (W : World) (hBs : W.cell? ⟨Bs, bo, none⟩ = some (.slice (some ⟨b, off, none⟩) len cap)) (hc : ∀ j, j < len → w0.cell? ⟨b, off + j, none⟩ = some (.int .i64 (zs[j]?.getD 0))) (h0 : J [] W) :
    CallsIn F n Try.prog 91 #[.func (.yield l) #[] #[], .pointer (some ⟨Bs, bo, none⟩)] W fun e W' => (∃ v, e = .returned v) ∧ J (uptoV zs len) W' := by
  refine callsIn_of_wp Try.func91 rfl h7 ?_ hro
  simp only [Try.ntmps91, List.size_toArray, List.length_cons, List.length_nil, Nat.reduceAdd, Nat.reduceSub, Array.replicate_succ, Array.replicate_zero, List.push_toArray, List.append_toArray, List.nil_append, List.cons_append]
  gi_wp2
  gi_loopw [7] (fun i wr => ∃ k : Nat, k ≤ len ∧ i = .int .i64 k ∧ J (uptoV zs k) wr)
    (fun i _ => len - (intOf i).toNat)
  case atStart => exact ⟨0, Nat.zero_le _, rfl, h0⟩
  case round =>
    obtain ⟨k, hk, rfl, hJs⟩ := hrel
    have hnx := hJb _ _ hJs
    have hcx : k < len → wr.cell? ⟨b, off + k, none⟩ = some (.int .i64 (zs[k]?.getD 0)) := fun h => (hnx.cell (p := ⟨b, off + k, none⟩) (hb (by omega))).trans (hc k h)
    by_cases hlt : k < len
    · obtain ⟨fn, tmps, assign, body, hy, hR⟩ := hY _ (zs[k]?.getD 0) wr hJs (by rw [uptoV_length]; exact hlt)
      have hcx' := hcx hlt
      gi_wp2
      refine hR.mono ?_
      rintro e W3 ⟨rfl, hJ3, _⟩
      gi_wp2
      go_roundw
      case rel => exact ⟨k + 1, by omega, by simp, by rw [uptoV_succ]; exact hJ3⟩
      case measure => simp [intOf]; omega
    · obtain rfl : k = len := by omega
      gi_wp2
      go_end0
      exact ⟨⟨_, rfl⟩, hJs⟩
open Go.RowKit Go.Shelf Go.Sort Go.Maps Go.Proofs in

attribute [local go_sem] Oper.semAt_some in
set_option maxHeartbeats 2000000 in
theorem values1_nil_in (F : Fence) (n : Nat) (h7 : F.fn 91) (hro : F.round = none) (l Bs bo : Nat) (p : Option Addr) (cap : Nat) (J : List Int → World → Prop) (W : World) (hBs : W.cell? ⟨Bs, bo, none⟩ = some (.slice p 0 cap)) (h0 : J [] W) :
    CallsIn F n Try.prog 91 #[.func (.yield l) #[] #[], .pointer (some ⟨Bs, bo, none⟩)] W fun e W' => (∃ v, e = .returned v) ∧ J [] W' := by
  refine callsIn_of_wp Try.func91 rfl h7 ?_ hro
  simp only [Try.ntmps91, List.size_toArray, List.length_cons, List.length_nil, Nat.reduceAdd, Nat.reduceSub, Array.replicate_succ, Array.replicate_zero, List.push_toArray, List.append_toArray, List.nil_append, List.cons_append]
  gi_wp2
  gi_loopw [7] (fun i wr => i = .int .i64 0 ∧ J [] wr) (fun _ _ => 0)
  case atStart => exact ⟨rfl, h0⟩
  case round =>
    obtain ⟨rfl, hJs⟩ := hrel
    gi_wp2
    go_end0
    exact ⟨⟨_, rfl⟩, hJs⟩
open Go.RowKit Go.Shelf Go.Maps Go.Proofs in

theorem appendSeq_ac {h : AH} {b o : Nat} {v : AV} {l : List Int} (wf : h.wf) (hcell : h.cell b o = some v) (hR : Rd h v l) (hl : l.length ≤ 1048576) :
    AC Try.prog 96 [.ns, .f 91 [.p b o]] h (fun r h' => AL.Own h 1 enI h' r l) := by
  refine AC_mk Try.func96 (by kernel_rfl) (by kernel_rfl) fun base w0 ι w cargs hrep hv => ?_
  obtain ⟨pl, hp, hca⟩ : ∃ pl : AL.Place, ι.bl[b]? = some pl ∧ cargs = #[.slice none 0 0, .func (.func 91) #[] #[.pointer (some ⟨pl.c, pl.o + o, none⟩)]] := by
    cases cargs with
    | mk cl =>
      simp only at hv
      cases hv with
      | cons h1 t =>
        cases h1
        cases t with
        | cons h2 t =>
          cases t
          cases h2 with
          | f _ _ vs h3 =>
            cases vs with
            | mk vl =>
              simp only at h3
              cases h3 with
              | cons h4 t4 =>
                cases t4
                cases h4 with
                | p _ _ pl e => exact ⟨pl, e, rfl⟩
  subst hca
  obtain ⟨row, hrow, hro⟩ : ∃ row, h.cs[b]? = some row ∧ row[o]? = some v := by
    unfold AH.cell at hcell
    cases hr : h.cs[b]? with
    | none => rw [hr] at hcell; simp at hcell
    | some row => rw [hr] at hcell; exact ⟨row, rfl, hcell⟩
  obtain ⟨cv, hcc, hcv⟩ := hrep.cell b pl row hp hrow o v hro
  have hIn : ∀ (J : List Int → World → Prop) (lp : Nat) (W : World), Below w.heap.size w W → (∀ pre W, J pre W → Below w.heap.size w W) → (∀ pre x W1, J pre W1 → pre.length < l.length → YieldAt Fence.wide (5 - 1 - 1) Try.prog lp #[.int .i64 x] W1 fun e W' => e = .returned (.bool true) ∧ J (pre ++ [x]) W' ∧ KeepsWalks W1 W') → J [] W →
      CallsIn Fence.wide (5 - 1) Try.prog 91 #[.func (.yield lp) #[] #[], .pointer (some ⟨pl.c, pl.o + o, none⟩)] W fun e W' => (∃ v, e = .returned v) ∧ J l W' := by
    intro J lp W hb hJb hY h0
    have hc' : W.cell? ⟨pl.c, pl.o + o, none⟩ = some cv := (hb.cell (p := ⟨pl.c, pl.o + o, none⟩) (hrep.inb b pl hp)).trans hcc
    have hln := hR.len
    rcases hR.rd with rfl | ⟨b2, o2, c2, rfl, hg1, hg2⟩
    · have : l = [] := by simp [lenA] at hln; exact List.eq_nil_of_length_eq_zero hln.symm
      subst this
      cases hcv
      exact values1_nil_in Fence.wide _ trivial rfl lp _ _ _ _ J W hc' h0
    · cases hcv with
      | sl _ _ _ _ pl2 x cap hp2 hcap hcl hx =>
        have key : ∀ j, j < l.length → x.block < w.heap.size ∧ w.cell? ⟨x.block, x.off + j, none⟩ = some (.int .i64 (l[j]?.getD 0)) ∧ x = ⟨x.block, x.off, none⟩ := by
          intro j hj
          rcases hx with hx | ⟨rfl, _⟩
          · omega
          · obtain ⟨row2, e1, e2, e3, e4⟩ := row_get hg1
            have hlf : (l.flatMap enI).length = l.length := by rw [flatMap_len enI1]; omega
            have h5 : row2[o2 + j]? = some (.i .i64 (l[j]?.getD 0)) := by
              have h6 : (l.flatMap enI)[j]? = some (.i .i64 (l[j]?.getD 0)) := by rw [flatMap_enI]; simp [hj]
              rw [e3, List.getElem?_take_of_lt (by omega), List.getElem?_drop] at h6
              exact h6
            obtain ⟨cv2, h7, h8⟩ := hrep.cell b2 pl2 row2 hp2 e1 (o2 + j) _ h5
            cases h8
            exact ⟨hrep.inb b2 pl2 hp2, by rw [show pl2.o + o2 + j = pl2.o + (o2 + j) by omega]; exact h7, rfl⟩
        by_cases hl0 : l = []
        · subst hl0
          exact values1_nil_in Fence.wide _ trivial rfl lp _ _ _ _ J W hc' h0
        · have hpos := List.length_pos_iff.2 hl0
          obtain ⟨_, _, ex⟩ := key 0 hpos
          rw [ex] at hc'
          have := values1_in Fence.wide (5 - 1) trivial rfl (by decide) lp pl.c (pl.o + o) w.heap.size x.block x.off l.length cap l (by omega) (fun _ => (key 0 hpos).1) J w hJb hY W hc' (fun j hj => (key j hj).2.1) h0
          rw [uptoV_all] at this
          exact this
  have H := appendSeqJ_in Try.mApp Fence.wide 5 trivial rfl (by decide) 91 #[.pointer (some ⟨pl.c, pl.o + o, none⟩)] trivial (enters_of Try.func91 (by kernel_rfl) rfl) (fun ss => ss = l) l.length (by unfold maxLen; omega) (by omega) w
    (fun fn lp Bs D W hb hY h0 => (hIn _ lp W hb (fun pre W h => h.below) hY h0).mono fun e W' ⟨he, hj⟩ => ⟨he, l, rfl, hj⟩)
  refine (callsIn_wide.1 H).mono ?_
  rintro e w' ⟨rv, ss, rfl, rfl, hrow, hnil, hb⟩
  have hrep' := hrep.below_keep hb
  rcases hrow.2 with ⟨rfl, hz⟩ | ⟨gb, cap, cur, rfl, hbase, hgb, r1, r2, r3, r4⟩
  · have : ss = [] := List.eq_nil_of_length_eq_zero hz
    subst this
    exact ⟨.ns, _, ι, h, rfl, .refl ι, hrep', .ns, AL.Own.nil wf (.refl h) wf _ _⟩
  · have hfl : (ss.flatMap enI).length = ss.length := by rw [flatMap_len enI1]; omega
    refine ⟨.sl h.cs.length 0 ss.length false, _, ι.add ⟨gb, 0, cur.size, 1⟩, h.new 1 (ss.flatMap enI), rfl, ι.le_add _, hrep'.addOwn hgb (by have := hrep.base_le; omega) (fun b pl e => by have := hrep.inb b pl e; omega) ?_ ?_ ?_, .sl _ _ _ _ ⟨gb, 0, cur.size, 1⟩ ⟨gb, 0, none⟩ cap ?_ r1 (by simp) (.inr ⟨rfl, by simp only; omega⟩), AL.Own.fresh wf (.refl h) wf enI1 ss false rfl rfl⟩
    · rw [hfl, flatMap_enI]
      have e : cur.toList.take ss.length = ss.map (Value.int .i64) := by
        have := r4
        rw [Nat.mul_one] at this
        exact this
      rw [e]
      exact vrels_ints _ ss
    · rw [hfl]; omega
    · rw [flatMap_enI]; simp [AV.sc]
    · rw [← hrep.lb]; exact get_new _ _

/-! ### Orders: slices.Sorted(slices.Values(list)) -/
theorem sortedV_ac {h : AH} {b o : Nat} {v : AV} {l : List Int} (hcell : h.cell b o = some v) (hR : Rd h v l) (hl : l.length ≤ 1048576) :
    AC Try.prog 74 [.f 91 [.p b o]] h (fun r h' => AL.Own h 1 enI h' r (l.mergeSort fun x y => decide (x ≤ y))) := by
  have hcol : ∀ h', h.le h' → h'.wf → AC Try.prog 89 [.f 91 [.p b o]] h' (fun r h2 => AL.Own h' 1 enI h2 r l) := by
    intro h' hle wf'
    have hc' : h'.cell b o = some v := hle.cell hcell
    refine e89 _ fun wf => ?_
    unfold c89
    refine LI_start wf ?_
    refine W ?_
    refine LS_co (fun h2 HL wf2 => appendSeq_ac wf2 (HL.le.cell hc') ((hR.le hle).le HL.le) hl) enI1 rfl rfl fun w lw sw => ?_
    try (dsimp only [st, setL, AV.cells, List.set_cons_zero, List.set_cons_succ, List.drop_zero, List.drop_succ_cons, List.take_zero, List.take_succ_cons, Nat.zero_add, Nat.add_zero, Nat.reduceAdd, List.cons_append, List.nil_append, List.eraseIdx_cons_zero, List.eraseIdx_cons_succ])
    refine W ?_
    refine RET fun h' HL => ?_
    try dsimp only [oneA]
    exact HL.ownI 0 rfl enI1 (by decide)
  refine e74 _ fun wf => ?_
  unfold c74
  refine LI_start wf ?_
  refine W ?_
  refine LS_co (fun h2 HL wf2 => hcol h2 HL.le wf2) enI1 rfl rfl fun w lw sw => ?_
  try (dsimp only [st, setL, AV.cells, List.set_cons_zero, List.set_cons_succ, List.drop_zero, List.drop_succ_cons, List.take_zero, List.take_succ_cons, Nat.zero_add, Nat.add_zero, Nat.reduceAdd, List.cons_append, List.nil_append, List.eraseIdx_cons_zero, List.eraseIdx_cons_succ])
  refine W ?_
  refine LS_cm (.refl _) (fun h' HL' wf => slSort_ac HL' (by omega)) rfl rfl ?_
  try (dsimp only [st, setL, AV.cells, List.set_cons_zero, List.set_cons_succ, List.drop_zero, List.drop_succ_cons, List.take_zero, List.take_succ_cons, Nat.zero_add, Nat.add_zero, Nat.reduceAdd, List.cons_append, List.nil_append, List.eraseIdx_cons_zero, List.eraseIdx_cons_succ])
  refine W ?_
  rintro _ _ ⟨rfl, rfl⟩
  try (dsimp only [st, setL, AV.cells, List.set_cons_zero, List.set_cons_succ, List.drop_zero, List.drop_succ_cons, List.take_zero, List.take_succ_cons, Nat.zero_add, Nat.add_zero, Nat.reduceAdd, List.cons_append, List.nil_append, List.eraseIdx_cons_zero, List.eraseIdx_cons_succ])
  refine W ?_
  refine RET fun h' HL => ?_
  try dsimp only [oneA]
  exact HL.ownI 0 rfl enI1 (by decide)

theorem valuesV_ac {h : AH} {v : AV} {l : List Int} (hR : Rd h v l) :
    AC Try.prog 75 [v] h (fun r h' => ∃ M, (∃ b, r = .f 91 [.p b 0] ∧ M = [.pt b [v]]) ∧ Loq h h' M) := by
  have sv := rd_sc hR
  refine e75 _ fun wf => ?_
  unfold c75
  refine LI_start wf ?_
  refine W ?_
  refine LS_bx1 rfl sv fun b => ?_
  try (dsimp only [st, setL, AV.cells, List.set_cons_zero, List.set_cons_succ, List.drop_zero, List.drop_succ_cons, List.take_zero, List.take_succ_cons, Nat.zero_add, Nat.add_zero, Nat.reduceAdd, List.cons_append, List.nil_append, List.eraseIdx_cons_zero, List.eraseIdx_cons_succ])
  refine W ?_
  refine RET fun h' HL => ?_
  try dsimp only [oneA]
  exact ⟨_, ⟨b, rfl, rfl⟩, HL⟩

theorem eqV_ac (l m : List Int) (v u : AV) (h : AH) (hv : Rd h v l) (hu : Rd h u m) (hl : l.length ≤ 4611686018427387904) (hm : m.length ≤ 4611686018427387904) :
    AC Try.prog 44 [v, u] h (fun r h' => r = .b (decide (l = m)) ∧ h.le h') := by
  have hvl := hv.len
  have hul := hu.len
  refine e44 _ _ fun wf => ?_
  unfold c44
  refine LI_start wf ?_
  refine W ?_
  by_cases hlm : l.length = m.length
  · first | (refine LS_gtnH rfl (by simp; omega) ?_; intro hg; try (dsimp only [st, setL, AV.cells, List.set_cons_zero, List.set_cons_succ, List.drop_zero, List.drop_succ_cons, List.take_zero, List.take_succ_cons, Nat.zero_add, Nat.add_zero, Nat.reduceAdd, List.cons_append, List.nil_append, List.eraseIdx_cons_zero, List.eraseIdx_cons_succ])) | (refine LS_gfnH rfl (by simp; omega) ?_; intro hg; try (dsimp only [st, setL, AV.cells, List.set_cons_zero, List.set_cons_succ, List.drop_zero, List.drop_succ_cons, List.take_zero, List.take_succ_cons, Nat.zero_add, Nat.add_zero, Nat.reduceAdd, List.cons_append, List.nil_append, List.eraseIdx_cons_zero, List.eraseIdx_cons_succ])) | (refine LI_cond_fH rfl (by simp; omega) ?_; intro hg)
    refine W ?_
    refine LIL_ind (fun k a L => ∃ (i : Int), (∃ r : Nat → AV, a = [v, u, r 2, r 3, .b false, r 5, r 6, r 7, r 8, r 9, r 10, r 11, .i .i64 l.length, .i .i64 i, r 14, r 15, r 16, r 17, r 18, r 19, r 20, r 21, r 22, r 23, r 24, r 25]) ∧ L = [] ∧ 0 ≤ i ∧ i + k = l.length ∧ decide (l = m) = decide (l.drop i.toNat = m.drop i.toNat))
      l.length ⟨0, exJ rfl, rfl, by omega, by omega, rfl⟩ ?_
    rintro k a L ⟨i, ⟨r, rfl⟩, rfl, h0, hk, hd⟩ IH
    refine W ?_
    (first | refine LS_gt rfl ?_ ?_ | refine LS_gf rfl ?_ ?_ | refine LI_cond rfl ?_ ?_) <;> intro hc <;> have hc' := hc <;> try simp only [decide_eq_true_eq, decide_eq_false_iff_not, Bool.not_eq_true', Bool.not_eq_false', Bool.not_eq_true, Bool.not_eq_false, beq_iff_eq, bne_iff_ne, beq_eq_false_iff_ne, bne_eq_false_iff_eq, Int.not_lt, Int.not_le, ge_iff_le, gt_iff_lt, not_and, ne_eq, Decidable.not_not] at hc'
    all_goals (try (dsimp only [st, setL, AV.cells, List.set_cons_zero, List.set_cons_succ, List.drop_zero, List.drop_succ_cons, List.take_zero, List.take_succ_cons, Nat.zero_add, Nat.add_zero, Nat.reduceAdd, List.cons_append, List.nil_append, List.eraseIdx_cons_zero, List.eraseIdx_cons_succ]))
    all_goals (refine W ?_)
    · obtain ⟨x, hx, _, hdx⟩ := drop_at (l := l) h0 hc'
      obtain ⟨y, hy, _, hdy⟩ := drop_at (l := m) h0 (by omega)
      rw [hdx, hdy] at hd
      refine dz44_0 ?_
      refine WX ?_
      refine W ?_
      refine LX_ix (fun h' HL => hv.le HL.le) enI1 hx h0 rfl rfl noG fun q1 o1 hrow1 => ?_
      try (dsimp only [st, setL, AV.cells, List.set_cons_zero, List.set_cons_succ, List.drop_zero, List.drop_succ_cons, List.take_zero, List.take_succ_cons, Nat.zero_add, Nat.add_zero, Nat.reduceAdd, List.cons_append, List.nil_append, List.eraseIdx_cons_zero, List.eraseIdx_cons_succ])
      refine WX ?_
      refine W ?_
      refine LX_ix (fun h' HL => hu.le HL.le) enI1 hy h0 rfl rfl noG fun q2 o2 hrow2 => ?_
      try (dsimp only [st, setL, AV.cells, List.set_cons_zero, List.set_cons_succ, List.drop_zero, List.drop_succ_cons, List.take_zero, List.take_succ_cons, Nat.zero_add, Nat.add_zero, Nat.reduceAdd, List.cons_append, List.nil_append, List.eraseIdx_cons_zero, List.eraseIdx_cons_succ])
      refine WX ?_
      refine W ?_
      (first | refine LS_gt rfl ?_ ?_ | refine LS_gf rfl ?_ ?_ | refine LI_cond rfl ?_ ?_) <;> intro hc <;> have hc' := hc <;> try simp only [decide_eq_true_eq, decide_eq_false_iff_not, Bool.not_eq_true', Bool.not_eq_false', Bool.not_eq_true, Bool.not_eq_false, beq_iff_eq, bne_iff_ne, beq_eq_false_iff_ne, bne_eq_false_iff_eq, Int.not_lt, Int.not_le, ge_iff_le, gt_iff_lt, not_and, ne_eq, Decidable.not_not] at hc'
      all_goals (try (dsimp only [st, setL, AV.cells, List.set_cons_zero, List.set_cons_succ, List.drop_zero, List.drop_succ_cons, List.take_zero, List.take_succ_cons, Nat.zero_add, Nat.add_zero, Nat.reduceAdd, List.cons_append, List.nil_append, List.eraseIdx_cons_zero, List.eraseIdx_cons_succ]))
      all_goals (refine W ?_)
      · have hne : x ≠ y := by simpa using hc
        refine RET fun h' HL => ?_
        try dsimp only [oneA]
        exact ⟨by rw [hd, decide_eq_false (by simp [hne])], HL.le⟩
      · have he : x = y := by simpa using hc
        refine IH (k - 1) _ _ (by omega) ⟨i + 1, exJ rfl, rfl, by omega, by omega, by rw [toNat_succ h0, hd]; simp [he]⟩
    · rw [List.drop_eq_nil_of_le (by omega), List.drop_eq_nil_of_le (by omega)] at hd
      refine RET fun h' HL => ?_
      try dsimp only [oneA]
      exact ⟨by rw [hd]; rfl, HL.le⟩
  · first | (refine LS_gyH rfl (by simp; omega) ?_; intro hg) | (refine LI_cond_tH rfl (by simp; omega) ?_; intro hg)
    refine W ?_
    refine RET fun h' HL => ?_
    try dsimp only [oneA]
    exact ⟨by rw [decide_eq_false (fun e => hlm (by rw [e]))], HL.le⟩

theorem l1Same_ac (l m : List Int) (v u : AV) (h : AH) (hv : Rd h v l) (hu : Rd h u m) (hl : l.length ≤ 4611686018427387904) (hm : m.length ≤ 4611686018427387904) :
    AC Try.prog 41 [v, u] h (fun r h' => r = .b (decide (l = m)) ∧ h.le h') := by
  have hvl := hv.len
  have hul := hu.len
  refine e41 _ _ fun wf => ?_
  unfold c41
  refine LI_start wf ?_
  refine W ?_
  by_cases hlm : l.length = m.length
  · first | (refine LS_gtnH rfl (by simp; omega) ?_; intro hg; try (dsimp only [st, setL, AV.cells, List.set_cons_zero, List.set_cons_succ, List.drop_zero, List.drop_succ_cons, List.take_zero, List.take_succ_cons, Nat.zero_add, Nat.add_zero, Nat.reduceAdd, List.cons_append, List.nil_append, List.eraseIdx_cons_zero, List.eraseIdx_cons_succ])) | (refine LS_gfnH rfl (by simp; omega) ?_; intro hg; try (dsimp only [st, setL, AV.cells, List.set_cons_zero, List.set_cons_succ, List.drop_zero, List.drop_succ_cons, List.take_zero, List.take_succ_cons, Nat.zero_add, Nat.add_zero, Nat.reduceAdd, List.cons_append, List.nil_append, List.eraseIdx_cons_zero, List.eraseIdx_cons_succ])) | (refine LI_cond_fH rfl (by simp; omega) ?_; intro hg)
    refine W ?_
    refine LIL_ind (fun k a L => ∃ (i : Int), (∃ r : Nat → AV, a = [v, u, r 2, r 3, .b false, r 5, r 6, r 7, r 8, r 9, r 10, r 11, .i .i64 l.length, .i .i64 i, r 14, r 15, r 16, r 17, r 18, r 19, r 20, r 21, r 22, r 23, r 24, r 25]) ∧ L = [] ∧ 0 ≤ i ∧ i + k = l.length ∧ decide (l = m) = decide (l.drop i.toNat = m.drop i.toNat))
      l.length ⟨0, exJ rfl, rfl, by omega, by omega, rfl⟩ ?_
    rintro k a L ⟨i, ⟨r, rfl⟩, rfl, h0, hk, hd⟩ IH
    refine W ?_
    (first | refine LS_gt rfl ?_ ?_ | refine LS_gf rfl ?_ ?_ | refine LI_cond rfl ?_ ?_) <;> intro hc <;> have hc' := hc <;> try simp only [decide_eq_true_eq, decide_eq_false_iff_not, Bool.not_eq_true', Bool.not_eq_false', Bool.not_eq_true, Bool.not_eq_false, beq_iff_eq, bne_iff_ne, beq_eq_false_iff_ne, bne_eq_false_iff_eq, Int.not_lt, Int.not_le, ge_iff_le, gt_iff_lt, not_and, ne_eq, Decidable.not_not] at hc'
    all_goals (try (dsimp only [st, setL, AV.cells, List.set_cons_zero, List.set_cons_succ, List.drop_zero, List.drop_succ_cons, List.take_zero, List.take_succ_cons, Nat.zero_add, Nat.add_zero, Nat.reduceAdd, List.cons_append, List.nil_append, List.eraseIdx_cons_zero, List.eraseIdx_cons_succ]))
    all_goals (refine W ?_)
    · obtain ⟨x, hx, _, hdx⟩ := drop_at (l := l) h0 hc'
      obtain ⟨y, hy, _, hdy⟩ := drop_at (l := m) h0 (by omega)
      rw [hdx, hdy] at hd
      refine dz41_0 ?_
      refine WX ?_
      refine W ?_
      refine LX_ix (fun h' HL => hv.le HL.le) enI1 hx h0 rfl rfl noG fun q1 o1 hrow1 => ?_
      try (dsimp only [st, setL, AV.cells, List.set_cons_zero, List.set_cons_succ, List.drop_zero, List.drop_succ_cons, List.take_zero, List.take_succ_cons, Nat.zero_add, Nat.add_zero, Nat.reduceAdd, List.cons_append, List.nil_append, List.eraseIdx_cons_zero, List.eraseIdx_cons_succ])
      refine WX ?_
      refine W ?_
      refine LX_ix (fun h' HL => hu.le HL.le) enI1 hy h0 rfl rfl noG fun q2 o2 hrow2 => ?_
      try (dsimp only [st, setL, AV.cells, List.set_cons_zero, List.set_cons_succ, List.drop_zero, List.drop_succ_cons, List.take_zero, List.take_succ_cons, Nat.zero_add, Nat.add_zero, Nat.reduceAdd, List.cons_append, List.nil_append, List.eraseIdx_cons_zero, List.eraseIdx_cons_succ])
      refine WX ?_
      refine W ?_
      (first | refine LS_gt rfl ?_ ?_ | refine LS_gf rfl ?_ ?_ | refine LI_cond rfl ?_ ?_) <;> intro hc <;> have hc' := hc <;> try simp only [decide_eq_true_eq, decide_eq_false_iff_not, Bool.not_eq_true', Bool.not_eq_false', Bool.not_eq_true, Bool.not_eq_false, beq_iff_eq, bne_iff_ne, beq_eq_false_iff_ne, bne_eq_false_iff_eq, Int.not_lt, Int.not_le, ge_iff_le, gt_iff_lt, not_and, ne_eq, Decidable.not_not] at hc'
      all_goals (try (dsimp only [st, setL, AV.cells, List.set_cons_zero, List.set_cons_succ, List.drop_zero, List.drop_succ_cons, List.take_zero, List.take_succ_cons, Nat.zero_add, Nat.add_zero, Nat.reduceAdd, List.cons_append, List.nil_append, List.eraseIdx_cons_zero, List.eraseIdx_cons_succ]))
      all_goals (refine W ?_)
      · have hne : x ≠ y := by simpa using hc
        refine RET fun h' HL => ?_
        try dsimp only [oneA]
        exact ⟨by rw [hd, decide_eq_false (by simp [hne])], HL.le⟩
      · have he : x = y := by simpa using hc
        refine IH (k - 1) _ _ (by omega) ⟨i + 1, exJ rfl, rfl, by omega, by omega, by rw [toNat_succ h0, hd]; simp [he]⟩
    · rw [List.drop_eq_nil_of_le (by omega), List.drop_eq_nil_of_le (by omega)] at hd
      refine RET fun h' HL => ?_
      try dsimp only [oneA]
      exact ⟨by rw [hd]; rfl, HL.le⟩
  · first | (refine LS_gyH rfl (by simp; omega) ?_; intro hg) | (refine LI_cond_tH rfl (by simp; omega) ?_; intro hg)
    refine W ?_
    refine RET fun h' HL => ?_
    try dsimp only [oneA]
    exact ⟨by rw [decide_eq_false (fun e => hlm (by rw [e]))], HL.le⟩

def isOrd (l : List Int) (n : Int) : Bool := decide ((l.mergeSort fun x y => decide (x ≤ y)) = iotaI n.toNat)

theorem isOrder_ac (l : List Int) (n : Int) (v : AV) (h : AH) (hR : Rd h v l) (hl : l.length ≤ 1048576) (h0 : 0 ≤ n) (h1 : n ≤ 1048576) :
    AC Try.prog 50 [v, .i .i64 n] h (fun r h' => r = .b (isOrd l n) ∧ h.le h') := by
  refine e50 _ _ fun wf => ?_
  unfold c50
  refine LI_start wf ?_
  refine W ?_
  refine LS_c1 (fun h' HL wf => valuesV_ac (hR.le HL.le)) rfl rfl ?_
  try (dsimp only [st, setL, AV.cells, List.set_cons_zero, List.set_cons_succ, List.drop_zero, List.drop_succ_cons, List.take_zero, List.take_succ_cons, Nat.zero_add, Nat.add_zero, Nat.reduceAdd, List.cons_append, List.nil_append, List.eraseIdx_cons_zero, List.eraseIdx_cons_succ])
  refine W ?_
  rintro _ _ ⟨b, rfl, rfl⟩
  try (dsimp only [st, setL, AV.cells, List.set_cons_zero, List.set_cons_succ, List.drop_zero, List.drop_succ_cons, List.take_zero, List.take_succ_cons, Nat.zero_add, Nat.add_zero, Nat.reduceAdd, List.cons_append, List.nil_append, List.eraseIdx_cons_zero, List.eraseIdx_cons_succ])
  refine W ?_
  refine LS_co (fun h' HL wf => sortedV_ac (HL.cellP 0 rfl rfl) (hR.le HL.le) hl) enI1 rfl rfl fun w lw sw => ?_
  try (dsimp only [st, setL, AV.cells, List.set_cons_zero, List.set_cons_succ, List.drop_zero, List.drop_succ_cons, List.take_zero, List.take_succ_cons, Nat.zero_add, Nat.add_zero, Nat.reduceAdd, List.cons_append, List.nil_append, List.eraseIdx_cons_zero, List.eraseIdx_cons_succ])
  refine W ?_
  refine LS_co (fun h' HL wf => firsts_ac n h' wf h0 h1) enI1 rfl rfl fun w2 lw2 sw2 => ?_
  try (dsimp only [st, setL, AV.cells, List.set_cons_zero, List.set_cons_succ, List.drop_zero, List.drop_succ_cons, List.take_zero, List.take_succ_cons, Nat.zero_add, Nat.add_zero, Nat.reduceAdd, List.cons_append, List.nil_append, List.eraseIdx_cons_zero, List.eraseIdx_cons_succ])
  refine W ?_
  refine LS_c0 (fun h' HL wf => eqV_ac (l.mergeSort fun x y => decide (x ≤ y)) (iotaI n.toNat) w w2 h' (HL.rdI 1 rfl enI1 (by decide)) (HL.rdI 0 rfl enI1 (by decide)) (by rw [List.length_mergeSort]; omega) (by simp [iotaI]; omega)) rfl rfl ?_
  try (dsimp only [st, setL, AV.cells, List.set_cons_zero, List.set_cons_succ, List.drop_zero, List.drop_succ_cons, List.take_zero, List.take_succ_cons, Nat.zero_add, Nat.add_zero, Nat.reduceAdd, List.cons_append, List.nil_append, List.eraseIdx_cons_zero, List.eraseIdx_cons_succ])
  refine W ?_
  refine RET fun h' HL => ?_
  try dsimp only [oneA]
  exact ⟨rfl, HL.le⟩

/-! ### Permutations: plain laws -/
def permB (l : List Int) : Bool := decide (l.Nodup ∧ ∀ x ∈ l, 0 ≤ x ∧ x < l.length)

theorem iota_sorted : ∀ k : Nat, (iotaI k).Pairwise (· ≤ ·) := by
  intro k
  unfold iotaI
  rw [List.pairwise_map]
  exact List.pairwise_lt_range.imp fun h => Int.ofNat_le.2 (Nat.le_of_lt h)

theorem isOrd_perm (l : List Int) : isOrd l l.length = decide (l.Perm (iotaI l.length)) := by
  unfold isOrd
  have hp := List.mergeSort_perm l (fun x y => decide (x ≤ y))
  have hs : (l.mergeSort fun x y => decide (x ≤ y)).Pairwise (· ≤ ·) := by
    have := List.pairwise_mergeSort (le := fun x y : Int => decide (x ≤ y)) (fun a b c h1 h2 => by simp at *; omega) (fun a b => by simp; omega) l
    exact this.imp (by intro a b h; simpa using h)
  rw [Int.toNat_natCast]
  by_cases h : l.Perm (iotaI l.length)
  · rw [decide_eq_true h, decide_eq_true]
    exact List.Perm.eq_of_pairwise (fun a b _ _ h1 h2 => by omega) hs (iota_sorted _) (hp.trans h)
  · rw [decide_eq_false h, decide_eq_false]
    intro e
    exact h (hp.symm.trans (e ▸ List.Perm.refl _))

theorem nodup_lenI (n : Nat) (l : List Int) (h1 : l.Nodup) (h2 : ∀ x ∈ l, 0 ≤ x ∧ x < n) : l.length ≤ n := by
  have := nodup_len n (l.map Int.toNat) (by
    unfold List.Nodup
    rw [List.pairwise_map]
    exact List.Pairwise.imp_of_mem (fun {a b} ha hb hne e => hne (by have := h2 a ha; have := h2 b hb; omega)) h1) (fun j hj => by
    obtain ⟨x, hx, rfl⟩ := List.mem_map.1 hj
    have := h2 x hx
    omega)
  simpa using this

theorem iota_mem (k : Nat) (x : Int) : x ∈ iotaI k ↔ 0 ≤ x ∧ x < k := by
  unfold iotaI
  rw [List.mem_map]
  constructor
  · rintro ⟨j, hj, rfl⟩
    have := List.mem_range.1 hj
    exact ⟨Int.natCast_nonneg _, Int.ofNat_lt.2 this⟩
  · intro h
    exact ⟨x.toNat, List.mem_range.2 (by omega), by show ((x.toNat : Nat) : Int) = x; omega⟩

theorem iota_nodup (k : Nat) : (iotaI k).Nodup := by
  unfold iotaI List.Nodup
  rw [List.pairwise_map]
  exact List.nodup_range.imp fun h e => h (Int.ofNat.inj e)

theorem permB_iff (l : List Int) : permB l = decide (l.Perm (iotaI l.length)) := by
  unfold permB
  by_cases h : l.Nodup ∧ ∀ x ∈ l, 0 ≤ x ∧ x < l.length
  · rw [decide_eq_true h, decide_eq_true]
    refine (List.perm_ext_iff_of_nodup h.1 (iota_nodup _)).2 fun x => ?_
    rw [iota_mem]
    refine ⟨h.2 x, fun hx => Classical.byContradiction fun hn => ?_⟩
    have := nodup_lenI l.length (x :: l) (List.nodup_cons.2 ⟨hn, h.1⟩) (fun y hy => by
      rcases List.mem_cons.1 hy with rfl | hy
      · exact hx
      · exact h.2 y hy)
    simp only [List.length_cons] at this
    omega
  · rw [decide_eq_false h, decide_eq_false]
    intro hp
    exact h ⟨hp.nodup_iff.2 (iota_nodup _), fun x hx => (iota_mem _ _).1 (hp.mem_iff.1 hx)⟩

theorem isOrd_permB (l : List Int) : isOrd l l.length = permB l := by rw [isOrd_perm, permB_iff]

/-! ### Permutations: both checks -/
def isPerm (l : List Int) : Bool := decide (1 ≤ l.length ∧ l.length ≤ 8) && permB l

theorem implIP_ac (l : List Int) (v : AV) (h : AH) (hR : Rd h v l) (hl : l.length ≤ 1048576) : AC Try.prog 20 [v] h (fun r h' => r = .b (isPerm l) ∧ h.le h') := by
  have hln := hR.len
  refine e20 _ fun wf => ?_
  unfold c20
  refine LI_start wf ?_
  refine W ?_
  refine LS_c0' (fun h' HL wf => in_ac l.length 1 8 h') rfl rfl ?_
  try (dsimp only [st, setL, AV.cells, List.set_cons_zero, List.set_cons_succ, List.drop_zero, List.drop_succ_cons, List.take_zero, List.take_succ_cons, Nat.zero_add, Nat.add_zero, Nat.reduceAdd, List.cons_append, List.nil_append, List.eraseIdx_cons_zero, List.eraseIdx_cons_succ])
  refine W ?_
  (first | refine LS_gt rfl ?_ ?_ | refine LS_gf rfl ?_ ?_ | refine LI_cond rfl ?_ ?_) <;> intro hc <;> have hc' := hc <;> try simp only [decide_eq_true_eq, decide_eq_false_iff_not, Bool.not_eq_true', Bool.not_eq_false', Bool.not_eq_true, Bool.not_eq_false, beq_iff_eq, bne_iff_ne, beq_eq_false_iff_ne, bne_eq_false_iff_eq, Int.not_lt, Int.not_le, ge_iff_le, gt_iff_lt, not_and, ne_eq, Decidable.not_not] at hc'
  all_goals (try (dsimp only [st, setL, AV.cells, List.set_cons_zero, List.set_cons_succ, List.drop_zero, List.drop_succ_cons, List.take_zero, List.take_succ_cons, Nat.zero_add, Nat.add_zero, Nat.reduceAdd, List.cons_append, List.nil_append, List.eraseIdx_cons_zero, List.eraseIdx_cons_succ]))
  all_goals (refine W ?_)
  · have hn : 1 ≤ l.length ∧ l.length ≤ 8 := by simp at hc; omega
    refine LS_c0 (fun h' HL wf => by have H := isOrder_ac l l.length v h' (hR.le HL.le) hl (by omega) (by omega); rw [isOrd_permB] at H; exact H) rfl rfl ?_
    try (dsimp only [st, setL, AV.cells, List.set_cons_zero, List.set_cons_succ, List.drop_zero, List.drop_succ_cons, List.take_zero, List.take_succ_cons, Nat.zero_add, Nat.add_zero, Nat.reduceAdd, List.cons_append, List.nil_append, List.eraseIdx_cons_zero, List.eraseIdx_cons_succ])
    refine W ?_
    refine RET fun h' HL => ?_
    try dsimp only [oneA]
    exact ⟨by rw [isPerm, decide_eq_true hn, Bool.true_and], HL.le⟩
  · have hn : ¬ (1 ≤ l.length ∧ l.length ≤ 8) := by simp at hc; omega
    refine RET fun h' HL => ?_
    try dsimp only [oneA]
    exact ⟨by rw [isPerm, decide_eq_false hn, Bool.false_and], HL.le⟩

/-! ### Permutations: the reference's check -/
def goodTo (l : List Int) (k : Nat) : Prop := (l.take k).Nodup ∧ ∀ x ∈ l.take k, 0 ≤ x ∧ x < l.length

theorem goodTo_succ {l : List Int} {k : Nat} {x : Int} (hx : l[k]? = some x) : goodTo l (k + 1) ↔ goodTo l k ∧ (0 ≤ x ∧ x ≤ l.length - 1) ∧ x ∉ l.take k := by
  unfold goodTo
  rw [take_snoc hx, List.nodup_append]
  constructor
  · rintro ⟨⟨h1, _, h3⟩, h4⟩
    have hb := h4 x (by simp)
    exact ⟨⟨h1, fun y hy => h4 y (by simp [hy])⟩, by omega, fun hm => h3 x hm x (by simp) rfl⟩
  · rintro ⟨⟨h1, h2⟩, h3, h4⟩
    refine ⟨⟨h1, by simp, fun y hy z hz e => ?_⟩, fun y hy => ?_⟩
    · rw [List.mem_singleton.1 hz] at e; exact h4 (e ▸ hy)
    · rcases List.mem_append.1 hy with hy | hy
      · exact h2 y hy
      · rw [List.mem_singleton.1 hy]; omega

theorem goodTo_le {l : List Int} {k : Nat} (h : goodTo l l.length) : goodTo l k :=
  ⟨by have := h.1; rw [List.take_length] at this; exact this.sublist (List.take_sublist _ _), fun x hx => by have := h.2 x; rw [List.take_length] at this; exact this (List.mem_of_mem_take hx)⟩

theorem goodTo_permB (l : List Int) : permB l = true ↔ goodTo l l.length := by
  unfold permB goodTo
  rw [List.take_length, decide_eq_true_iff]

theorem isPerm_bad {l : List Int} (h : ¬ goodTo l l.length) : isPerm l = false := by
  rw [isPerm, Bool.eq_false_iff.2 (fun e => h ((goodTo_permB l).1 e)), Bool.and_false]

theorem moPerm_ac (l : List Int) (v : AV) (h : AH) (hR : Rd h v l) (hl : l.length ≤ 1048576) : AC Try.prog 67 [v] h (fun r h' => r = .b (isPerm l) ∧ h.le h') := by
  have hln := hR.len
  refine e67 _ fun wf => ?_
  unfold c67
  refine LI_start wf ?_
  refine W ?_
  refine LIL_ind (fun m a L => ∃ (i : Int), (∃ r : Nat → AV, a = [v, r 1, r 2, r 3, r 4, v, .i .i64 l.length, .i .i64 i, r 8, r 9, r 10, r 11, r 12, r 13, r 14, r 15, r 16, r 17, r 18, r 19, r 20, r 21, r 22, r 23, r 24, r 25, r 26, r 27, r 28]) ∧ L = [] ∧ 0 ≤ i ∧ i + m = l.length ∧ goodTo l i.toNat)
    l.length ⟨0, exJ rfl, rfl, by omega, by omega, by simp [goodTo]⟩ ?_
  rintro m a L ⟨i, ⟨r, rfl⟩, rfl, h0, hk, hg0⟩ IH
  refine W ?_
  (first | refine LS_gt rfl ?_ ?_ | refine LS_gf rfl ?_ ?_ | refine LI_cond rfl ?_ ?_) <;> intro hc <;> have hc' := hc <;> try simp only [decide_eq_true_eq, decide_eq_false_iff_not, Bool.not_eq_true', Bool.not_eq_false', Bool.not_eq_true, Bool.not_eq_false, beq_iff_eq, bne_iff_ne, beq_eq_false_iff_ne, bne_eq_false_iff_eq, Int.not_lt, Int.not_le, ge_iff_le, gt_iff_lt, not_and, ne_eq, Decidable.not_not] at hc'
  all_goals (try (dsimp only [st, setL, AV.cells, List.set_cons_zero, List.set_cons_succ, List.drop_zero, List.drop_succ_cons, List.take_zero, List.take_succ_cons, Nat.zero_add, Nat.add_zero, Nat.reduceAdd, List.cons_append, List.nil_append, List.eraseIdx_cons_zero, List.eraseIdx_cons_succ]))
  all_goals (refine W ?_)
  · obtain ⟨x, hx, hxm, _⟩ := drop_at (l := l) h0 hc'
    have hgs := goodTo_succ hx
    refine LS_ix (fun h' HL => hR.le HL.le) enI1 hx h0 rfl rfl fun q1 o1 hrow1 => ?_
    try (dsimp only [st, setL, AV.cells, List.set_cons_zero, List.set_cons_succ, List.drop_zero, List.drop_succ_cons, List.take_zero, List.take_succ_cons, Nat.zero_add, Nat.add_zero, Nat.reduceAdd, List.cons_append, List.nil_append, List.eraseIdx_cons_zero, List.eraseIdx_cons_succ])
    refine W ?_
    refine LS_c0' (fun h' HL wf => l1In_ac x 0 ((l.length : Int) - 1) h') rfl rfl ?_
    try (dsimp only [st, setL, AV.cells, List.set_cons_zero, List.set_cons_succ, List.drop_zero, List.drop_succ_cons, List.take_zero, List.take_succ_cons, Nat.zero_add, Nat.add_zero, Nat.reduceAdd, List.cons_append, List.nil_append, List.eraseIdx_cons_zero, List.eraseIdx_cons_succ])
    refine W ?_
    (first | refine LS_gt rfl ?_ ?_ | refine LS_gf rfl ?_ ?_ | refine LI_cond rfl ?_ ?_) <;> intro hc <;> have hc' := hc <;> try simp only [decide_eq_true_eq, decide_eq_false_iff_not, Bool.not_eq_true', Bool.not_eq_false', Bool.not_eq_true, Bool.not_eq_false, beq_iff_eq, bne_iff_ne, beq_eq_false_iff_ne, bne_eq_false_iff_eq, Int.not_lt, Int.not_le, ge_iff_le, gt_iff_lt, not_and, ne_eq, Decidable.not_not] at hc'
    all_goals (try (dsimp only [st, setL, AV.cells, List.set_cons_zero, List.set_cons_succ, List.drop_zero, List.drop_succ_cons, List.take_zero, List.take_succ_cons, Nat.zero_add, Nat.add_zero, Nat.reduceAdd, List.cons_append, List.nil_append, List.eraseIdx_cons_zero, List.eraseIdx_cons_succ]))
    all_goals (refine W ?_)
    · have hin := of_decide_eq_true (nf hc)
      refine LS_sz (u := i.toNat) (q := 0) (fun h' HL => hR.le HL.le) enI1 (.inl ⟨rfl, rfl⟩) (.inr ⟨_, _, _, rfl, rfl, h0, rfl⟩) (by omega) (by omega) rfl fun w1 hw1 sw1 rw1 => ?_
      try (dsimp only [st, setL, AV.cells, List.set_cons_zero, List.set_cons_succ, List.drop_zero, List.drop_succ_cons, List.take_zero, List.take_succ_cons, Nat.zero_add, Nat.add_zero, Nat.reduceAdd, List.cons_append, List.nil_append, List.eraseIdx_cons_zero, List.eraseIdx_cons_succ])
      refine W ?_
      refine LS_c0 (fun h' HL wf => l1Has_ac (l.take i.toNat) w1 x h' (by have := rw1 h' (hR.le HL.le); rwa [List.drop_zero] at this) (by simp; omega)) rfl rfl ?_
      try (dsimp only [st, setL, AV.cells, List.set_cons_zero, List.set_cons_succ, List.drop_zero, List.drop_succ_cons, List.take_zero, List.take_succ_cons, Nat.zero_add, Nat.add_zero, Nat.reduceAdd, List.cons_append, List.nil_append, List.eraseIdx_cons_zero, List.eraseIdx_cons_succ])
      refine W ?_
      (first | refine LS_gt rfl ?_ ?_ | refine LS_gf rfl ?_ ?_ | refine LI_cond rfl ?_ ?_) <;> intro hc <;> have hc' := hc <;> try simp only [decide_eq_true_eq, decide_eq_false_iff_not, Bool.not_eq_true', Bool.not_eq_false', Bool.not_eq_true, Bool.not_eq_false, beq_iff_eq, bne_iff_ne, beq_eq_false_iff_ne, bne_eq_false_iff_eq, Int.not_lt, Int.not_le, ge_iff_le, gt_iff_lt, not_and, ne_eq, Decidable.not_not] at hc'
      all_goals (try (dsimp only [st, setL, AV.cells, List.set_cons_zero, List.set_cons_succ, List.drop_zero, List.drop_succ_cons, List.take_zero, List.take_succ_cons, Nat.zero_add, Nat.add_zero, Nat.reduceAdd, List.cons_append, List.nil_append, List.eraseIdx_cons_zero, List.eraseIdx_cons_succ]))
      all_goals (refine W ?_)
      · have hmem : x ∈ l.take i.toNat := by obtain ⟨y, hy, e⟩ := List.any_eq_true.1 hc; rw [← eq_of_beq e]; exact hy
        rw [isPerm_bad fun hg => ((hgs.1 (goodTo_le hg)).2.2 hmem)]
        refine RET fun h' HL => ?_
        try dsimp only [oneA]
        exact ⟨rfl, HL.le⟩
      · have hmem : x ∉ l.take i.toNat := fun hm => by have := List.any_eq_false.1 hc x hm; simp at this
        refine IH (m - 1) _ _ (by omega) ⟨i + 1, exJ rfl, rfl, by omega, by omega, by rw [toNat_succ h0]; exact hgs.2 ⟨hg0, hin, hmem⟩⟩
    · have hin := of_decide_eq_false (nt hc)
      rw [isPerm_bad fun hg => (hin (hgs.1 (goodTo_le hg)).2.1)]
      refine RET fun h' HL => ?_
      try dsimp only [oneA]
      exact ⟨rfl, HL.le⟩
  · have ei : i.toNat = l.length := by omega
    rw [ei] at hg0
    refine LS_c0' (fun h' HL wf => l1In_ac l.length 1 8 h') rfl rfl ?_
    try (dsimp only [st, setL, AV.cells, List.set_cons_zero, List.set_cons_succ, List.drop_zero, List.drop_succ_cons, List.take_zero, List.take_succ_cons, Nat.zero_add, Nat.add_zero, Nat.reduceAdd, List.cons_append, List.nil_append, List.eraseIdx_cons_zero, List.eraseIdx_cons_succ])
    refine W ?_
    refine RET fun h' HL => ?_
    try dsimp only [oneA]
    refine ⟨?_, HL.le⟩
    rw [isPerm, (goodTo_permB l).2 hg0, Bool.and_true]
    congr 1
    by_cases h8 : 1 ≤ l.length ∧ l.length ≤ 8
    · rw [decide_eq_true h8, decide_eq_true (by omega)]
    · rw [decide_eq_false h8, decide_eq_false (by omega)]

theorem specIP_ac (l : List Int) (v : AV) (h : AH) (hR : Rd h v l) (hl : l.length ≤ 1048576) : AC Try.prog 34 [v] h (fun r h' => r = .b (isPerm l) ∧ h.le h') := by
  have hln := hR.len
  refine e34 _ fun wf => ?_
  unfold c34
  refine LI_start wf ?_
  refine W ?_
  (first | refine LS_gt rfl ?_ ?_ | refine LS_gf rfl ?_ ?_ | refine LI_cond rfl ?_ ?_) <;> intro hc <;> have hc' := hc <;> try simp only [decide_eq_true_eq, decide_eq_false_iff_not, Bool.not_eq_true', Bool.not_eq_false', Bool.not_eq_true, Bool.not_eq_false, beq_iff_eq, bne_iff_ne, beq_eq_false_iff_ne, bne_eq_false_iff_eq, Int.not_lt, Int.not_le, ge_iff_le, gt_iff_lt, not_and, ne_eq, Decidable.not_not] at hc'
  all_goals (try (dsimp only [st, setL, AV.cells, List.set_cons_zero, List.set_cons_succ, List.drop_zero, List.drop_succ_cons, List.take_zero, List.take_succ_cons, Nat.zero_add, Nat.add_zero, Nat.reduceAdd, List.cons_append, List.nil_append, List.eraseIdx_cons_zero, List.eraseIdx_cons_succ]))
  all_goals (refine W ?_)
  · refine LS_c0 (fun h' HL wf => moPerm_ac l v h' (hR.le HL.le) hl) rfl rfl ?_
    try (dsimp only [st, setL, AV.cells, List.set_cons_zero, List.set_cons_succ, List.drop_zero, List.drop_succ_cons, List.take_zero, List.take_succ_cons, Nat.zero_add, Nat.add_zero, Nat.reduceAdd, List.cons_append, List.nil_append, List.eraseIdx_cons_zero, List.eraseIdx_cons_succ])
    refine W ?_
    refine RET fun h' HL => ?_
    try dsimp only [oneA]
    exact ⟨rfl, HL.le⟩
  · refine RET fun h' HL => ?_
    try dsimp only [oneA]
    refine ⟨?_, HL.le⟩
    rw [isPerm, decide_eq_false (fun e => by have := e.2; omega), Bool.false_and]

theorem permB_out {l : List Int} (h : permB l = true) : l.Nodup ∧ ∀ x ∈ l, 0 ≤ x ∧ x < l.length := of_decide_eq_true h

/-! ### Permutations: products and powers, walked -/
theorem then_ac (a b : List Int) (v w : AV) (h : AH) (ha : Rd h v a) (hb : Rd h w b) (hl : a.length ≤ 1048576) (hob : ∀ i ∈ a, 0 ≤ i ∧ i < b.length) :
    AC Try.prog 45 [v, w] h (fun r h' => AL.Own h 1 enI h' r (pickM b a)) := by
  refine e45 _ _ fun wf => ?_
  unfold c45
  refine LI_start wf ?_
  refine W ?_
  refine LS_co (fun h' HL wf => renamed_ac b a w v h' (hb.le HL.le) (ha.le HL.le) hl hob) enI1 rfl rfl fun w1 lw sw => ?_
  try (dsimp only [st, setL, AV.cells, List.set_cons_zero, List.set_cons_succ, List.drop_zero, List.drop_succ_cons, List.take_zero, List.take_succ_cons, Nat.zero_add, Nat.add_zero, Nat.reduceAdd, List.cons_append, List.nil_append, List.eraseIdx_cons_zero, List.eraseIdx_cons_succ])
  refine W ?_
  refine RET fun h' HL => ?_
  try dsimp only [oneA]
  exact HL.ownI 0 rfl enI1 (by decide)

theorem moThen_ac (a b : List Int) (v w : AV) (h : AH) (ha : Rd h v a) (hb : Rd h w b) (hl : a.length ≤ 1048576) (hob : ∀ i ∈ a, 0 ≤ i ∧ i < b.length) :
    AC Try.prog 42 [v, w] h (fun r h' => AL.Own h 1 enI h' r (pickM b a)) := by
  refine e42 _ _ fun wf => ?_
  unfold c42
  refine LI_start wf ?_
  refine W ?_
  refine LS_co (fun h' HL wf => moPick_ac b a w v h' (hb.le HL.le) (ha.le HL.le) hl hob) enI1 rfl rfl fun w1 lw sw => ?_
  try (dsimp only [st, setL, AV.cells, List.set_cons_zero, List.set_cons_succ, List.drop_zero, List.drop_succ_cons, List.take_zero, List.take_succ_cons, Nat.zero_add, Nat.add_zero, Nat.reduceAdd, List.cons_append, List.nil_append, List.eraseIdx_cons_zero, List.eraseIdx_cons_succ])
  refine W ?_
  refine RET fun h' HL => ?_
  try dsimp only [oneA]
  exact HL.ownI 0 rfl enI1 (by decide)

theorem isPerm_out {l : List Int} (h : isPerm l = true) : 1 ≤ l.length ∧ l.length ≤ 8 ∧ permB l = true := by
  simp only [isPerm, Bool.and_eq_true, decide_eq_true_eq] at h
  exact ⟨h.1.1, h.1.2, h.2⟩

/-! ### Rows of rows -/
theorem rowsI_out : ∀ (us : List AV) (ll : List (List Int)), ∀ x ∈ rowsI us ll, ∃ (i : Nat) (u : AV) (l : List Int), us[i]? = some u ∧ ll[i]? = some l ∧ x = It.sl u 1 (l.flatMap enI)
  | u :: us, l :: ll, x, hx => by
    simp only [rowsI, List.mem_cons] at hx
    rcases hx with rfl | hx
    · exact ⟨0, u, l, rfl, rfl, rfl⟩
    · obtain ⟨i, u', l', h1, h2, h3⟩ := rowsI_out us ll x hx
      exact ⟨i + 1, u', l', h1, h2, h3⟩
  | [], _, x, hx => by simp [rowsI] at hx
  | _ :: _, [], x, hx => by simp [rowsI] at hx

theorem rowsI_pw : ∀ (us : List AV) (ll : List (List Int)), (∀ (i j : Nat) (u u' : AV) (l l' : List Int), us[i]? = some u → us[j]? = some u' → ll[i]? = some l → ll[j]? = some l' → i < j → It.ap (.sl u 1 (l.flatMap enI)) (.sl u' 1 (l'.flatMap enI))) → (rowsI us ll).Pairwise It.ap
  | u :: us, l :: ll, H => by
    simp only [rowsI]
    refine List.pairwise_cons.2 ⟨fun x hx => ?_, rowsI_pw us ll fun i j u u' l l' h1 h2 h3 h4 hlt => H (i + 1) (j + 1) u u' l l' h1 h2 h3 h4 (by omega)⟩
    obtain ⟨i, u', l', h1, h2, rfl⟩ := rowsI_out us ll x hx
    exact H 0 (i + 1) u u' l l' rfl h1 rfl h2 (by omega)
  | [], _, _ => by simp [rowsI]
  | _ :: _, [], _ => by simp [rowsI]

/-! ### Lists of permutations that commute -/
theorem ownSS_loq {h0 h : AH} {v : AV} {ll : List (List Int)} {us : List AV} (H : OwnSS h0 h v ll us) : Loq h0 h (ssI v us ll) := by
  have hl := H.len
  have hin : ∀ x ∈ rowsI us ll, ∃ (i : Nat) (u : AV) (l : List Int), us[i]? = some u ∧ ll[i]? = some l ∧ x = .sl u 1 (l.flatMap enI) := rowsI_out us ll
  refine ⟨H.outer.wf0, H.outer.le, H.outer.wf, fun x hx => ?_, ?_⟩
  · simp only [ssI, List.append_nil, List.mem_cons] at hx
    rcases hx with rfl | hx
    · exact H.outer.it enV1
    · obtain ⟨i, u, l, h1, h2, rfl⟩ := hin x hx
      exact (H.row i u l h1 h2).it enI1
  · have ap_of : ∀ {u u' : AV} {k k' : Nat} {c c' : List AV}, apartV u u' → (It.sl u k c).ap (.sl u' k' c') := fun {u u' k k' c c'} hap => .sl fun b e e' => by
      cases u <;> simp only [It.blk, reduceCtorEq] at e
      cases u' <;> simp only [It.blk, reduceCtorEq] at e'
      cases e; cases e'
      exact hap _ _ _ _ _ _ _ _ rfl rfl rfl
    simp only [ssI, List.append_nil]
    refine List.pairwise_cons.2 ⟨fun x hx => ?_, rowsI_pw us ll fun i j u u' l l' h1 h2 h3 h4 hlt => ap_of (H.ap i j u u' h1 h2 (by omega))⟩
    obtain ⟨i, u, l, h1, h2, rfl⟩ := hin x hx
    exact ap_of (H.apo i u h1)

theorem toIntSSI_ac (ll : List (List Int)) (v : AV) (vs : List AV) (h : AH) (hR : RdSS h v ll vs) (hll : ll.length ≤ 1048576) (hl : ∀ l ∈ ll, l.length ≤ 1048576) :
    AC Try.prog 12 [v] h (fun r h' => ∃ M, (∃ us, us.length = ll.length ∧ lenA r = some us.length ∧ r.sc = true ∧ M = ssI r us ll) ∧ Loq h h' M) :=
  (toIntSS_own ll v vs h hR hll hl).mono fun r h' ⟨us, H⟩ => ⟨_, ⟨us, H.len, H.outer.rd.len, rd_sc H.outer.rd, rfl⟩, ownSS_loq H⟩

theorem ssI_rd {h0 h : AH} {v : AV} {us : List AV} {ll : List (List Int)} (A B : List It) (H : Loq h0 h (A ++ (ssI v us ll ++ B))) (hl : us.length = ll.length) : RdSS h v ll us :=
  H.ss (List.mem_append_right _ (List.mem_append_left _ List.mem_cons_self)) (fun x hx => List.mem_append_right _ (List.mem_append_left _ (List.mem_cons_of_mem _ (List.mem_append_left _ hx)))) hl

def alikeB (ll : List (List Int)) : Bool := ll.all fun l => isPerm l && decide (l.length = (r0 ll).length)

def alikeOk (ll : List (List Int)) : Bool := decide (ll.length ≤ 6) && alikeB ll

theorem alike_1_ac (u : AV) (ll : List (List Int)) (v : AV) (vs : List AV) (l : List Int) (b : Nat) (h : AH) (hb : h.cell b 0 = some v) (hR : RdSS h v ll vs) (hu : Rd h u l) (hl : 0 < ll.length) (hll : l.length ≤ 1048576) :
    AC Try.prog 70 [u, .p b 0] h (fun r h' => r = .b (!(isPerm l && decide (l.length = (r0 ll).length))) ∧ h.le h') := by
  obtain ⟨u0, hu0, hr0⟩ := hR.at_ (r0_get hl)
  have hul := hu.len
  have hu0l := hr0.len
  refine e70 _ _ fun wf => ?_
  unfold c70
  refine LI_start wf ?_
  refine W ?_
  refine LS_c0 (fun h' HL wf => implIP_ac l u h' (hu.le HL.le) hll) rfl rfl ?_
  try (dsimp only [st, setL, AV.cells, List.set_cons_zero, List.set_cons_succ, List.drop_zero, List.drop_succ_cons, List.take_zero, List.take_succ_cons, Nat.zero_add, Nat.add_zero, Nat.reduceAdd, List.cons_append, List.nil_append, List.eraseIdx_cons_zero, List.eraseIdx_cons_succ])
  refine W ?_
  (first | refine LS_gt rfl ?_ ?_ | refine LS_gf rfl ?_ ?_ | refine LI_cond rfl ?_ ?_) <;> intro hc <;> have hc' := hc <;> try simp only [decide_eq_true_eq, decide_eq_false_iff_not, Bool.not_eq_true', Bool.not_eq_false', Bool.not_eq_true, Bool.not_eq_false, beq_iff_eq, bne_iff_ne, beq_eq_false_iff_ne, bne_eq_false_iff_eq, Int.not_lt, Int.not_le, ge_iff_le, gt_iff_lt, not_and, ne_eq, Decidable.not_not] at hc'
  all_goals (try (dsimp only [st, setL, AV.cells, List.set_cons_zero, List.set_cons_succ, List.drop_zero, List.drop_succ_cons, List.take_zero, List.take_succ_cons, Nat.zero_add, Nat.add_zero, Nat.reduceAdd, List.cons_append, List.nil_append, List.eraseIdx_cons_zero, List.eraseIdx_cons_succ]))
  all_goals (refine W ?_)
  · refine LS_ix (n := 0) (fun h' HL => (hR.le HL.le).outer) enV1 hu0 (by omega) rfl rfl fun q1 o1 hrow1 => ?_
    try (dsimp only [st, setL, AV.cells, List.set_cons_zero, List.set_cons_succ, List.drop_zero, List.drop_succ_cons, List.take_zero, List.take_succ_cons, Nat.zero_add, Nat.add_zero, Nat.reduceAdd, List.cons_append, List.nil_append, List.eraseIdx_cons_zero, List.eraseIdx_cons_succ])
    refine W ?_
    refine RET fun h' HL => ?_
    try dsimp only [oneA]
    refine ⟨?_, HL.le⟩
    rw [nf hc, Bool.true_and]
    by_cases e : l.length = (r0 ll).length
    · rw [decide_eq_true e]; simp [e]
    · rw [decide_eq_false e]; simp; omega
  · refine RET fun h' HL => ?_
    try dsimp only [oneA]
    refine ⟨?_, HL.le⟩
    rw [nt hc, Bool.false_and]; rfl

theorem alike_ac (ll : List (List Int)) (v : AV) (vs : List AV) (h : AH) (hR : RdSS h v ll vs) (hll : ll.length ≤ 1048576) (hl : ∀ l ∈ ll, l.length ≤ 1048576) :
    AC Try.prog 43 [v] h (fun r h' => r = .b (alikeB ll) ∧ h.le h') := by
  have sv := rd_sc hR.outer
  have hlen := hR.len
  refine e43 _ fun wf => ?_
  unfold c43
  refine LI_start wf ?_
  refine W ?_
  refine LS_bx1 rfl sv fun b1 => ?_
  try (dsimp only [st, setL, AV.cells, List.set_cons_zero, List.set_cons_succ, List.drop_zero, List.drop_succ_cons, List.take_zero, List.take_succ_cons, Nat.zero_add, Nat.add_zero, Nat.reduceAdd, List.cons_append, List.nil_append, List.eraseIdx_cons_zero, List.eraseIdx_cons_succ])
  refine W ?_
  refine LS_c0 (fun h' HL wf => ContainsFuncSS_ac ll vs v _ _ (fun l => !(isPerm l && decide (l.length = (r0 ll).length))) h' (hR.le HL.le).outer hR.len (by omega) (fun i u x hu hx h2 hle => alike_1_ac u ll v vs x b1 h2 (hle.cell (HL.cellP 0 rfl rfl)) ((hR.le HL.le).le hle) (((hR.le HL.le).row i u x hu hx).le hle) (by have := (List.getElem?_eq_some_iff.1 hx).1; omega) (hl x (List.mem_of_getElem? hx)))) rfl rfl ?_
  try (dsimp only [st, setL, AV.cells, List.set_cons_zero, List.set_cons_succ, List.drop_zero, List.drop_succ_cons, List.take_zero, List.take_succ_cons, Nat.zero_add, Nat.add_zero, Nat.reduceAdd, List.cons_append, List.nil_append, List.eraseIdx_cons_zero, List.eraseIdx_cons_succ])
  refine W ?_
  refine RET fun h' HL => ?_
  try dsimp only [oneA]
  exact ⟨congrArg AV.b List.all_eq_not_any_not.symm, HL.le⟩

theorem moAlike_ac (ll : List (List Int)) (v : AV) (vs : List AV) (h : AH) (hR : RdSS h v ll vs) (hll : ll.length ≤ 1048576) (hl : ∀ l ∈ ll, l.length ≤ 1048576) :
    AC Try.prog 40 [v] h (fun r h' => r = .b (alikeOk ll) ∧ h.le h') := by
  have hlen := hR.len
  have hvl := hR.outer.len
  rw [hlen] at hvl
  refine e40 _ fun wf => ?_
  unfold c40
  refine LI_start wf ?_
  refine W ?_
  refine LIL_ind (fun m a L => ∃ (i : Int), (∃ r : Nat → AV, a = [v, r 1, r 2, r 3, r 4, v, .i .i64 ll.length, .i .i64 i, r 8, r 9, r 10, r 11, r 12, r 13, r 14, r 15, r 16, r 17, r 18, r 19, r 20, r 21, r 22, r 23, r 24, r 25, r 26]) ∧ L = [] ∧ 0 ≤ i ∧ i + m = ll.length ∧ ∀ l ∈ ll.take i.toNat, (isPerm l && decide (l.length = (r0 ll).length)) = true)
    ll.length ⟨0, exJ rfl, rfl, by omega, by omega, by simp⟩ ?_
  rintro m a L ⟨i, ⟨r, rfl⟩, rfl, h0, hk, hg⟩ IH
  refine W ?_
  (first | refine LS_gt rfl ?_ ?_ | refine LS_gf rfl ?_ ?_ | refine LI_cond rfl ?_ ?_) <;> intro hc <;> have hc' := hc <;> try simp only [decide_eq_true_eq, decide_eq_false_iff_not, Bool.not_eq_true', Bool.not_eq_false', Bool.not_eq_true, Bool.not_eq_false, beq_iff_eq, bne_iff_ne, beq_eq_false_iff_ne, bne_eq_false_iff_eq, Int.not_lt, Int.not_le, ge_iff_le, gt_iff_lt, not_and, ne_eq, Decidable.not_not] at hc'
  all_goals (try (dsimp only [st, setL, AV.cells, List.set_cons_zero, List.set_cons_succ, List.drop_zero, List.drop_succ_cons, List.take_zero, List.take_succ_cons, Nat.zero_add, Nat.add_zero, Nat.reduceAdd, List.cons_append, List.nil_append, List.eraseIdx_cons_zero, List.eraseIdx_cons_succ]))
  all_goals (refine W ?_)
  · obtain ⟨l, hx, hlm, _⟩ := drop_at (l := ll) h0 hc'
    obtain ⟨u, hu, hru⟩ := hR.at_ hx
    obtain ⟨u0, hu0, hr0⟩ := hR.at_ (r0_get (ll := ll) (by omega))
    have hul := hru.len
    have hu0l := hr0.len
    have hbad : (isPerm l && decide (l.length = (r0 ll).length)) = false → alikeOk ll = false := fun e => by
      rw [alikeOk, alikeB, Bool.and_eq_false_iff]
      exact .inr (List.all_eq_false.2 ⟨l, hlm, by rw [e]; simp⟩)
    refine LS_ix (fun h' HL => (hR.le HL.le).outer) enV1 hu h0 rfl rfl fun q1 o1 hrow1 => ?_
    try (dsimp only [st, setL, AV.cells, List.set_cons_zero, List.set_cons_succ, List.drop_zero, List.drop_succ_cons, List.take_zero, List.take_succ_cons, Nat.zero_add, Nat.add_zero, Nat.reduceAdd, List.cons_append, List.nil_append, List.eraseIdx_cons_zero, List.eraseIdx_cons_succ])
    refine W ?_
    refine LS_c0 (fun h' HL wf => specIP_ac l u h' (hru.le HL.le) (hl l hlm)) rfl rfl ?_
    try (dsimp only [st, setL, AV.cells, List.set_cons_zero, List.set_cons_succ, List.drop_zero, List.drop_succ_cons, List.take_zero, List.take_succ_cons, Nat.zero_add, Nat.add_zero, Nat.reduceAdd, List.cons_append, List.nil_append, List.eraseIdx_cons_zero, List.eraseIdx_cons_succ])
    refine W ?_
    (first | refine LS_gt rfl ?_ ?_ | refine LS_gf rfl ?_ ?_ | refine LI_cond rfl ?_ ?_) <;> intro hc <;> have hc' := hc <;> try simp only [decide_eq_true_eq, decide_eq_false_iff_not, Bool.not_eq_true', Bool.not_eq_false', Bool.not_eq_true, Bool.not_eq_false, beq_iff_eq, bne_iff_ne, beq_eq_false_iff_ne, bne_eq_false_iff_eq, Int.not_lt, Int.not_le, ge_iff_le, gt_iff_lt, not_and, ne_eq, Decidable.not_not] at hc'
    all_goals (try (dsimp only [st, setL, AV.cells, List.set_cons_zero, List.set_cons_succ, List.drop_zero, List.drop_succ_cons, List.take_zero, List.take_succ_cons, Nat.zero_add, Nat.add_zero, Nat.reduceAdd, List.cons_append, List.nil_append, List.eraseIdx_cons_zero, List.eraseIdx_cons_succ]))
    all_goals (refine W ?_)
    · have h1 := nf hc
      refine LS_ix (n := 0) (fun h' HL => (hR.le HL.le).outer) enV1 hu0 (by omega) rfl rfl fun q2 o2 hrow2 => ?_
      try (dsimp only [st, setL, AV.cells, List.set_cons_zero, List.set_cons_succ, List.drop_zero, List.drop_succ_cons, List.take_zero, List.take_succ_cons, Nat.zero_add, Nat.add_zero, Nat.reduceAdd, List.cons_append, List.nil_append, List.eraseIdx_cons_zero, List.eraseIdx_cons_succ])
      refine W ?_
      (first | refine LS_gt rfl ?_ ?_ | refine LS_gf rfl ?_ ?_ | refine LI_cond rfl ?_ ?_) <;> intro hc <;> have hc' := hc <;> try simp only [decide_eq_true_eq, decide_eq_false_iff_not, Bool.not_eq_true', Bool.not_eq_false', Bool.not_eq_true, Bool.not_eq_false, beq_iff_eq, bne_iff_ne, beq_eq_false_iff_ne, bne_eq_false_iff_eq, Int.not_lt, Int.not_le, ge_iff_le, gt_iff_lt, not_and, ne_eq, Decidable.not_not] at hc'
      all_goals (try (dsimp only [st, setL, AV.cells, List.set_cons_zero, List.set_cons_succ, List.drop_zero, List.drop_succ_cons, List.take_zero, List.take_succ_cons, Nat.zero_add, Nat.add_zero, Nat.reduceAdd, List.cons_append, List.nil_append, List.eraseIdx_cons_zero, List.eraseIdx_cons_succ]))
      all_goals (refine W ?_)
      · rw [hbad (by rw [decide_eq_false (by omega), Bool.and_false])]
        refine RET fun h' HL => ?_
        try dsimp only [oneA]
        exact ⟨rfl, HL.le⟩
      · refine IH (m - 1) _ _ (by omega) ⟨i + 1, exJ rfl, rfl, by omega, by omega, ?_⟩
        rw [toNat_succ h0, take_snoc hx]
        intro y hy
        rcases List.mem_append.1 hy with hy | hy
        · exact hg y hy
        · rw [List.mem_singleton.1 hy, h1, decide_eq_true (by omega)]; rfl
    · rw [hbad (by rw [nt hc, Bool.false_and])]
      refine RET fun h' HL => ?_
      try dsimp only [oneA]
      exact ⟨rfl, HL.le⟩
  · refine RET fun h' HL => ?_
    try dsimp only [oneA]
    refine ⟨?_, HL.le⟩
    rw [List.take_of_length_le (by omega)] at hg
    rw [alikeOk, alikeB, List.all_eq_true.2 hg, Bool.and_true]
    congr 1
    by_cases e : ll.length ≤ 6
    · rw [decide_eq_true e, decide_eq_true (by omega)]
    · rw [decide_eq_false e, decide_eq_false (by omega)]

/-! ### Whether permutations commute -/
def commB (ll : List (List Int)) : Bool := ll.all fun a => ll.all fun b => decide (pickM b a = pickM a b)

theorem alike_get {ll : List (List Int)} (H : alikeOk ll = true) {l : List Int} (hm : l ∈ ll) : isPerm l = true ∧ l.length = (r0 ll).length := by
  simp only [alikeOk, alikeB, Bool.and_eq_true] at H
  have := List.all_eq_true.1 H.2 l hm
  simpa using this

theorem alike_pick {ll : List (List Int)} (H : alikeOk ll = true) {a b : List Int} (ha : a ∈ ll) (hb : b ∈ ll) : ∀ i ∈ a, 0 ≤ i ∧ i < b.length := by
  have h1 := alike_get H ha
  have h2 := alike_get H hb
  rw [h2.2, ← h1.2]
  exact (permB_out (isPerm_out h1.1).2.2).2

theorem alike_len {ll : List (List Int)} (H : alikeOk ll = true) {a : List Int} (ha : a ∈ ll) : a.length ≤ 1048576 := by
  have := (isPerm_out (alike_get H ha).1).2.1
  omega

theorem comm_bad {ll : List (List Int)} {a b : List Int} (ha : a ∈ ll) (hb : b ∈ ll) (hne : ¬ pickM b a = pickM a b) : commB ll = false :=
  List.all_eq_false.2 ⟨a, ha, by rw [List.all_eq_false.2 ⟨b, hb, by simpa using hne⟩]; simp⟩

theorem comm_all {ll : List (List Int)} (H : ∀ a ∈ ll, ∀ b ∈ ll, pickM b a = pickM a b) : commB ll = true :=
  List.all_eq_true.2 fun a ha => List.all_eq_true.2 fun b hb => by simpa using H a ha b hb

theorem comm_half {ll : List (List Int)} (H : ∀ (i j : Nat) (a b : List Int), ll[i]? = some a → ll[j]? = some b → j < i → pickM b a = pickM a b) : commB ll = true :=
  comm_all fun a ha b hb => by
    obtain ⟨i, hi⟩ := List.mem_iff_getElem?.1 ha
    obtain ⟨j, hj⟩ := List.mem_iff_getElem?.1 hb
    rcases Nat.lt_trichotomy i j with h | h | h
    · exact (H j i b a hj hi h).symm
    · subst h; rw [hi] at hj; cases hj; rfl
    · exact H i j a b hi hj h

theorem specDo_ac (ll : List (List Int)) (v : AV) (vs : List AV) (h : AH) (hR : RdSS h v ll vs) (hll : ll.length ≤ 1048576) (hl : ∀ l ∈ ll, l.length ≤ 1048576) :
    AC Try.prog 11 [v] h (fun r h' => r = .tup [.b (alikeOk ll && commB ll), .b (alikeOk ll)] ∧ h.le h') := by
  have hlen := hR.len
  have hvl := hR.outer.len
  rw [hlen] at hvl
  refine e11 _ fun wf => ?_
  unfold c11
  refine LI_start wf ?_
  refine W ?_
  refine LS_c0 (fun h' HL wf => moAlike_ac ll v vs h' (hR.le HL.le) hll hl) rfl rfl ?_
  try (dsimp only [st, setL, AV.cells, List.set_cons_zero, List.set_cons_succ, List.drop_zero, List.drop_succ_cons, List.take_zero, List.take_succ_cons, Nat.zero_add, Nat.add_zero, Nat.reduceAdd, List.cons_append, List.nil_append, List.eraseIdx_cons_zero, List.eraseIdx_cons_succ])
  refine W ?_
  (first | refine LS_gt rfl ?_ ?_ | refine LS_gf rfl ?_ ?_ | refine LI_cond rfl ?_ ?_) <;> intro hc <;> have hc' := hc <;> try simp only [decide_eq_true_eq, decide_eq_false_iff_not, Bool.not_eq_true', Bool.not_eq_false', Bool.not_eq_true, Bool.not_eq_false, beq_iff_eq, bne_iff_ne, beq_eq_false_iff_ne, bne_eq_false_iff_eq, Int.not_lt, Int.not_le, ge_iff_le, gt_iff_lt, not_and, ne_eq, Decidable.not_not] at hc'
  all_goals (try (dsimp only [st, setL, AV.cells, List.set_cons_zero, List.set_cons_succ, List.drop_zero, List.drop_succ_cons, List.take_zero, List.take_succ_cons, Nat.zero_add, Nat.add_zero, Nat.reduceAdd, List.cons_append, List.nil_append, List.eraseIdx_cons_zero, List.eraseIdx_cons_succ]))
  all_goals (refine W ?_)
  · rw [nt hc]
    refine RET fun h' HL => ?_
    try dsimp only [oneA]
    exact ⟨rfl, HL.le⟩
  · have hok := nf hc
    rw [hok, Bool.true_and]
    refine LIL_ind (fun m a L => ∃ (i : Int), (∃ r : Nat → AV, a = [v, r 1, r 2, r 3, r 4, r 5, r 6, r 7, r 8, r 9, r 10, v, .i .i64 ll.length, .i .i64 i, r 14, r 15, r 16, r 17, r 18, r 19, r 20, r 21, r 22, r 23, r 24, r 25, r 26, r 27, r 28, r 29, r 30, r 31, r 32]) ∧ L = [] ∧ 0 ≤ i ∧ i + m = ll.length ∧ ∀ a ∈ ll.take i.toNat, ∀ b ∈ ll, pickM b a = pickM a b)
      ll.length ⟨0, exJ rfl, rfl, by omega, by omega, by simp⟩ ?_
    rintro m a L ⟨i, ⟨r, rfl⟩, rfl, h0, hk, hg⟩ IH
    refine W ?_
    (first | refine LS_gt rfl ?_ ?_ | refine LS_gf rfl ?_ ?_ | refine LI_cond rfl ?_ ?_) <;> intro hc <;> have hc' := hc <;> try simp only [decide_eq_true_eq, decide_eq_false_iff_not, Bool.not_eq_true', Bool.not_eq_false', Bool.not_eq_true, Bool.not_eq_false, beq_iff_eq, bne_iff_ne, beq_eq_false_iff_ne, bne_eq_false_iff_eq, Int.not_lt, Int.not_le, ge_iff_le, gt_iff_lt, not_and, ne_eq, Decidable.not_not] at hc'
    all_goals (try (dsimp only [st, setL, AV.cells, List.set_cons_zero, List.set_cons_succ, List.drop_zero, List.drop_succ_cons, List.take_zero, List.take_succ_cons, Nat.zero_add, Nat.add_zero, Nat.reduceAdd, List.cons_append, List.nil_append, List.eraseIdx_cons_zero, List.eraseIdx_cons_succ]))
    all_goals (refine W ?_)
    · obtain ⟨x, hx, hxm, _⟩ := drop_at (l := ll) h0 hc'
      obtain ⟨u, hu, hru⟩ := hR.at_ hx
      refine LS_ix (fun h' HL => (hR.le HL.le).outer) enV1 hu h0 rfl rfl fun q1 o1 hrow1 => ?_
      try (dsimp only [st, setL, AV.cells, List.set_cons_zero, List.set_cons_succ, List.drop_zero, List.drop_succ_cons, List.take_zero, List.take_succ_cons, Nat.zero_add, Nat.add_zero, Nat.reduceAdd, List.cons_append, List.nil_append, List.eraseIdx_cons_zero, List.eraseIdx_cons_succ])
      refine W ?_
      refine LIL_ind (fun m a L => ∃ (j : Int), (∃ r : Nat → AV, a = [v, r 1, r 2, r 3, r 4, u, r 6, r 7, r 8, r 9, r 10, v, .i .i64 ll.length, .i .i64 i, r 14, r 15, r 16, v, .i .i64 ll.length, .i .i64 j, r 20, r 21, r 22, r 23, r 24, r 25, r 26, r 27, r 28, r 29, r 30, r 31, r 32]) ∧ L = [] ∧ 0 ≤ j ∧ j + m = ll.length ∧ ∀ b ∈ ll.take j.toNat, pickM b x = pickM x b)
        ll.length ⟨0, exJ rfl, rfl, by omega, by omega, by simp⟩ ?_
      rintro m2 a L ⟨j, ⟨r, rfl⟩, rfl, g0, gk, gg⟩ IH2
      refine W ?_
      (first | refine LS_gt rfl ?_ ?_ | refine LS_gf rfl ?_ ?_ | refine LI_cond rfl ?_ ?_) <;> intro hc <;> have hc' := hc <;> try simp only [decide_eq_true_eq, decide_eq_false_iff_not, Bool.not_eq_true', Bool.not_eq_false', Bool.not_eq_true, Bool.not_eq_false, beq_iff_eq, bne_iff_ne, beq_eq_false_iff_ne, bne_eq_false_iff_eq, Int.not_lt, Int.not_le, ge_iff_le, gt_iff_lt, not_and, ne_eq, Decidable.not_not] at hc'
      all_goals (try (dsimp only [st, setL, AV.cells, List.set_cons_zero, List.set_cons_succ, List.drop_zero, List.drop_succ_cons, List.take_zero, List.take_succ_cons, Nat.zero_add, Nat.add_zero, Nat.reduceAdd, List.cons_append, List.nil_append, List.eraseIdx_cons_zero, List.eraseIdx_cons_succ]))
      all_goals (refine W ?_)
      · obtain ⟨y, hy, hym, _⟩ := drop_at (l := ll) g0 hc'
        obtain ⟨u2, hu2, hru2⟩ := hR.at_ hy
        refine LS_ix (fun h' HL => (hR.le HL.le).outer) enV1 hu2 g0 rfl rfl fun q2 o2 hrow2 => ?_
        try (dsimp only [st, setL, AV.cells, List.set_cons_zero, List.set_cons_succ, List.drop_zero, List.drop_succ_cons, List.take_zero, List.take_succ_cons, Nat.zero_add, Nat.add_zero, Nat.reduceAdd, List.cons_append, List.nil_append, List.eraseIdx_cons_zero, List.eraseIdx_cons_succ])
        refine W ?_
        refine LS_co (fun h' HL wf => moThen_ac x y u u2 h' (hru.le HL.le) (hru2.le HL.le) (alike_len hok hxm) (alike_pick hok hxm hym)) enI1 rfl rfl fun w1 lw1 sw1 => ?_
        try (dsimp only [st, setL, AV.cells, List.set_cons_zero, List.set_cons_succ, List.drop_zero, List.drop_succ_cons, List.take_zero, List.take_succ_cons, Nat.zero_add, Nat.add_zero, Nat.reduceAdd, List.cons_append, List.nil_append, List.eraseIdx_cons_zero, List.eraseIdx_cons_succ])
        refine W ?_
        refine LS_co (fun h' HL wf => moThen_ac y x u2 u h' (hru2.le HL.le) (hru.le HL.le) (alike_len hok hym) (alike_pick hok hym hxm)) enI1 rfl rfl fun w2 lw2 sw2 => ?_
        try (dsimp only [st, setL, AV.cells, List.set_cons_zero, List.set_cons_succ, List.drop_zero, List.drop_succ_cons, List.take_zero, List.take_succ_cons, Nat.zero_add, Nat.add_zero, Nat.reduceAdd, List.cons_append, List.nil_append, List.eraseIdx_cons_zero, List.eraseIdx_cons_succ])
        refine W ?_
        have e1 := pickM_len y x
        have e2 := pickM_len x y
        have e3 := alike_len hok hxm
        have e4 := alike_len hok hym
        refine LS_c0 (fun h' HL wf => l1Same_ac (pickM y x) (pickM x y) w1 w2 h' (HL.rdI 1 rfl enI1 (by decide)) (HL.rdI 0 rfl enI1 (by decide)) (by omega) (by omega)) rfl rfl ?_
        try (dsimp only [st, setL, AV.cells, List.set_cons_zero, List.set_cons_succ, List.drop_zero, List.drop_succ_cons, List.take_zero, List.take_succ_cons, Nat.zero_add, Nat.add_zero, Nat.reduceAdd, List.cons_append, List.nil_append, List.eraseIdx_cons_zero, List.eraseIdx_cons_succ])
        refine W ?_
        (first | refine LS_gt rfl ?_ ?_ | refine LS_gf rfl ?_ ?_ | refine LI_cond rfl ?_ ?_) <;> intro hc <;> have hc' := hc <;> try simp only [decide_eq_true_eq, decide_eq_false_iff_not, Bool.not_eq_true', Bool.not_eq_false', Bool.not_eq_true, Bool.not_eq_false, beq_iff_eq, bne_iff_ne, beq_eq_false_iff_ne, bne_eq_false_iff_eq, Int.not_lt, Int.not_le, ge_iff_le, gt_iff_lt, not_and, ne_eq, Decidable.not_not] at hc'
        all_goals (try (dsimp only [st, setL, AV.cells, List.set_cons_zero, List.set_cons_succ, List.drop_zero, List.drop_succ_cons, List.take_zero, List.take_succ_cons, Nat.zero_add, Nat.add_zero, Nat.reduceAdd, List.cons_append, List.nil_append, List.eraseIdx_cons_zero, List.eraseIdx_cons_succ]))
        all_goals (refine W ?_)
        · rw [comm_bad hxm hym (of_decide_eq_false (nt hc))]
          refine RET fun h' HL => ?_
          try dsimp only [oneA]
          exact ⟨rfl, HL.le⟩
        · refine LIL_drop 2 ?_
          refine IH2 (m2 - 1) _ _ (by omega) ⟨j + 1, exJ rfl, rfl, by omega, by omega, ?_⟩
          rw [toNat_succ g0, take_snoc hy]
          intro z hz
          rcases List.mem_append.1 hz with hz | hz
          · exact gg z hz
          · rw [List.mem_singleton.1 hz]; exact of_decide_eq_true (nf hc)
      · rw [List.take_of_length_le (by omega)] at gg
        refine IH (m - 1) _ _ (by omega) ⟨i + 1, exJ rfl, rfl, by omega, by omega, ?_⟩
        rw [toNat_succ h0, take_snoc hx]
        intro z hz
        rcases List.mem_append.1 hz with hz | hz
        · exact hg z hz
        · rw [List.mem_singleton.1 hz]; exact gg
    · rw [List.take_of_length_le (by omega)] at hg
      rw [comm_all hg]
      refine RET fun h' HL => ?_
      try dsimp only [oneA]
      exact ⟨rfl, HL.le⟩

theorem implDo_ac (ll : List (List Int)) (v : AV) (vs : List AV) (h : AH) (hR : RdSS h v ll vs) (hll : ll.length ≤ 1048576) (hl : ∀ l ∈ ll, l.length ≤ 1048576) :
    AC Try.prog 13 [v] h (fun r h' => r = .tup [.b (alikeOk ll && commB ll), .b (alikeOk ll)] ∧ h.le h') := by
  have hlen := hR.len
  have hvl := hR.outer.len
  rw [hlen] at hvl
  refine e13 _ fun wf => ?_
  unfold c13
  refine LI_start wf ?_
  refine W ?_
  (first | refine LS_gt rfl ?_ ?_ | refine LS_gf rfl ?_ ?_ | refine LI_cond rfl ?_ ?_) <;> intro hc <;> have hc' := hc <;> try simp only [decide_eq_true_eq, decide_eq_false_iff_not, Bool.not_eq_true', Bool.not_eq_false', Bool.not_eq_true, Bool.not_eq_false, beq_iff_eq, bne_iff_ne, beq_eq_false_iff_ne, bne_eq_false_iff_eq, Int.not_lt, Int.not_le, ge_iff_le, gt_iff_lt, not_and, ne_eq, Decidable.not_not] at hc'
  all_goals (try (dsimp only [st, setL, AV.cells, List.set_cons_zero, List.set_cons_succ, List.drop_zero, List.drop_succ_cons, List.take_zero, List.take_succ_cons, Nat.zero_add, Nat.add_zero, Nat.reduceAdd, List.cons_append, List.nil_append, List.eraseIdx_cons_zero, List.eraseIdx_cons_succ]))
  all_goals (refine W ?_)
  · have h6 : ll.length ≤ 6 := by omega
    refine LS_c0 (fun h' HL wf => alike_ac ll v vs h' (hR.le HL.le) hll hl) rfl rfl ?_
    try (dsimp only [st, setL, AV.cells, List.set_cons_zero, List.set_cons_succ, List.drop_zero, List.drop_succ_cons, List.take_zero, List.take_succ_cons, Nat.zero_add, Nat.add_zero, Nat.reduceAdd, List.cons_append, List.nil_append, List.eraseIdx_cons_zero, List.eraseIdx_cons_succ])
    refine W ?_
    have hokE : alikeOk ll = alikeB ll := by rw [alikeOk, decide_eq_true h6, Bool.true_and]
    (first | refine LS_gt rfl ?_ ?_ | refine LS_gf rfl ?_ ?_ | refine LI_cond rfl ?_ ?_) <;> intro hc <;> have hc' := hc <;> try simp only [decide_eq_true_eq, decide_eq_false_iff_not, Bool.not_eq_true', Bool.not_eq_false', Bool.not_eq_true, Bool.not_eq_false, beq_iff_eq, bne_iff_ne, beq_eq_false_iff_ne, bne_eq_false_iff_eq, Int.not_lt, Int.not_le, ge_iff_le, gt_iff_lt, not_and, ne_eq, Decidable.not_not] at hc'
    all_goals (try (dsimp only [st, setL, AV.cells, List.set_cons_zero, List.set_cons_succ, List.drop_zero, List.drop_succ_cons, List.take_zero, List.take_succ_cons, Nat.zero_add, Nat.add_zero, Nat.reduceAdd, List.cons_append, List.nil_append, List.eraseIdx_cons_zero, List.eraseIdx_cons_succ]))
    all_goals (refine W ?_)
    · rw [hokE, nt hc]
      refine RET fun h' HL => ?_
      try dsimp only [oneA]
      exact ⟨rfl, HL.le⟩
    · have hok : alikeOk ll = true := by rw [hokE]; exact nf hc
      rw [hok, Bool.true_and]
      refine LIL_ind (fun m a L => ∃ (i : Int), (∃ r : Nat → AV, a = [v, r 1, r 2, r 3, r 4, r 5, r 6, r 7, r 8, r 9, r 10, r 11, r 12, r 13, r 14, r 15, v, .i .i64 ll.length, .i .i64 i, r 19, r 20, r 21, r 22, r 23, r 24, r 25, r 26, r 27, r 28, r 29, r 30, r 31, r 32, r 33, r 34, r 35, r 36, r 37, r 38, r 39, r 40]) ∧ L = [] ∧ 0 ≤ i ∧ i + m = ll.length ∧ ∀ (k j : Nat) (a b : List Int), ll[k]? = some a → ll[j]? = some b → j < k → k < i.toNat → pickM b a = pickM a b)
        ll.length ⟨0, exJ rfl, rfl, by omega, by omega, fun k j a b _ _ _ e => by simp at e⟩ ?_
      rintro m a L ⟨i, ⟨r, rfl⟩, rfl, h0, hk, hg⟩ IH
      refine W ?_
      (first | refine LS_gt rfl ?_ ?_ | refine LS_gf rfl ?_ ?_ | refine LI_cond rfl ?_ ?_) <;> intro hc <;> have hc' := hc <;> try simp only [decide_eq_true_eq, decide_eq_false_iff_not, Bool.not_eq_true', Bool.not_eq_false', Bool.not_eq_true, Bool.not_eq_false, beq_iff_eq, bne_iff_ne, beq_eq_false_iff_ne, bne_eq_false_iff_eq, Int.not_lt, Int.not_le, ge_iff_le, gt_iff_lt, not_and, ne_eq, Decidable.not_not] at hc'
      all_goals (try (dsimp only [st, setL, AV.cells, List.set_cons_zero, List.set_cons_succ, List.drop_zero, List.drop_succ_cons, List.take_zero, List.take_succ_cons, Nat.zero_add, Nat.add_zero, Nat.reduceAdd, List.cons_append, List.nil_append, List.eraseIdx_cons_zero, List.eraseIdx_cons_succ]))
      all_goals (refine W ?_)
      · obtain ⟨x, hx, hxm, _⟩ := drop_at (l := ll) h0 hc'
        obtain ⟨u, hu, hru⟩ := hR.at_ hx
        refine LS_ix (fun h' HL => (hR.le HL.le).outer) enV1 hu h0 rfl rfl fun q1 o1 hrow1 => ?_
        try (dsimp only [st, setL, AV.cells, List.set_cons_zero, List.set_cons_succ, List.drop_zero, List.drop_succ_cons, List.take_zero, List.take_succ_cons, Nat.zero_add, Nat.add_zero, Nat.reduceAdd, List.cons_append, List.nil_append, List.eraseIdx_cons_zero, List.eraseIdx_cons_succ])
        refine W ?_
        refine LS_sz (u := i.toNat) (q := 0) (fun h' HL => (hR.le HL.le).outer) enV1 (.inl ⟨rfl, rfl⟩) (.inr ⟨_, _, _, rfl, rfl, h0, rfl⟩) (by omega) (by omega) rfl fun w0 hw0 sw0 rw0 => ?_
        try (dsimp only [st, setL, AV.cells, List.set_cons_zero, List.set_cons_succ, List.drop_zero, List.drop_succ_cons, List.take_zero, List.take_succ_cons, Nat.zero_add, Nat.add_zero, Nat.reduceAdd, List.cons_append, List.nil_append, List.eraseIdx_cons_zero, List.eraseIdx_cons_succ])
        refine W ?_
        refine LIL_ind (fun m a L => ∃ (j : Int), (∃ r : Nat → AV, a = [v, r 1, r 2, r 3, r 4, u, r 6, r 7, r 8, r 9, r 10, r 11, r 12, r 13, r 14, r 15, v, .i .i64 ll.length, .i .i64 i, r 19, r 20, r 21, r 22, r 23, r 24, w0, .i .i64 ((i.toNat - 0 : Nat) : Int), .i .i64 j, r 28, r 29, r 30, r 31, r 32, r 33, r 34, r 35, r 36, r 37, r 38, r 39, r 40]) ∧ L = [] ∧ 0 ≤ j ∧ j + m = i ∧ ∀ (k : Nat) (b : List Int), ll[k]? = some b → k < j.toNat → pickM b x = pickM x b)
          i.toNat ⟨0, exJ rfl, rfl, by omega, by omega, fun k b _ e => by simp at e⟩ ?_
        rintro m2 a L ⟨j, ⟨r, rfl⟩, rfl, g0, gk, gg⟩ IH2
        refine W ?_
        (first | refine LS_gt rfl ?_ ?_ | refine LS_gf rfl ?_ ?_ | refine LI_cond rfl ?_ ?_) <;> intro hc <;> have hc' := hc <;> try simp only [decide_eq_true_eq, decide_eq_false_iff_not, Bool.not_eq_true', Bool.not_eq_false', Bool.not_eq_true, Bool.not_eq_false, beq_iff_eq, bne_iff_ne, beq_eq_false_iff_ne, bne_eq_false_iff_eq, Int.not_lt, Int.not_le, ge_iff_le, gt_iff_lt, not_and, ne_eq, Decidable.not_not] at hc'
        all_goals (try (dsimp only [st, setL, AV.cells, List.set_cons_zero, List.set_cons_succ, List.drop_zero, List.drop_succ_cons, List.take_zero, List.take_succ_cons, Nat.zero_add, Nat.add_zero, Nat.reduceAdd, List.cons_append, List.nil_append, List.eraseIdx_cons_zero, List.eraseIdx_cons_succ]))
        all_goals (refine W ?_)
        · obtain ⟨y, hy, hym, _⟩ := drop_at (l := ll) g0 (by omega)
          obtain ⟨u2, hu2, hru2⟩ := hR.at_ hy
          have hu3 : ((vs.take i.toNat).drop 0)[j.toNat]? = some u2 := by
            rw [List.drop_zero, List.getElem?_take_of_lt (by omega)]
            exact hu2
          refine LS_ix (fun h' HL => rw0 h' (hR.le HL.le).outer) enV1 hu3 g0 rfl rfl fun q2 o2 hrow2 => ?_
          try (dsimp only [st, setL, AV.cells, List.set_cons_zero, List.set_cons_succ, List.drop_zero, List.drop_succ_cons, List.take_zero, List.take_succ_cons, Nat.zero_add, Nat.add_zero, Nat.reduceAdd, List.cons_append, List.nil_append, List.eraseIdx_cons_zero, List.eraseIdx_cons_succ])
          refine W ?_
          refine LS_co (fun h' HL wf => then_ac x y u u2 h' (hru.le HL.le) (hru2.le HL.le) (alike_len hok hxm) (alike_pick hok hxm hym)) enI1 rfl rfl fun w1 lw1 sw1 => ?_
          try (dsimp only [st, setL, AV.cells, List.set_cons_zero, List.set_cons_succ, List.drop_zero, List.drop_succ_cons, List.take_zero, List.take_succ_cons, Nat.zero_add, Nat.add_zero, Nat.reduceAdd, List.cons_append, List.nil_append, List.eraseIdx_cons_zero, List.eraseIdx_cons_succ])
          refine W ?_
          refine LS_co (fun h' HL wf => then_ac y x u2 u h' (hru2.le HL.le) (hru.le HL.le) (alike_len hok hym) (alike_pick hok hym hxm)) enI1 rfl rfl fun w2 lw2 sw2 => ?_
          try (dsimp only [st, setL, AV.cells, List.set_cons_zero, List.set_cons_succ, List.drop_zero, List.drop_succ_cons, List.take_zero, List.take_succ_cons, Nat.zero_add, Nat.add_zero, Nat.reduceAdd, List.cons_append, List.nil_append, List.eraseIdx_cons_zero, List.eraseIdx_cons_succ])
          refine W ?_
          have e1 := pickM_len y x
          have e2 := pickM_len x y
          have e3 := alike_len hok hxm
          have e4 := alike_len hok hym
          refine LS_c0 (fun h' HL wf => eqV_ac (pickM y x) (pickM x y) w1 w2 h' (HL.rdI 1 rfl enI1 (by decide)) (HL.rdI 0 rfl enI1 (by decide)) (by omega) (by omega)) rfl rfl ?_
          try (dsimp only [st, setL, AV.cells, List.set_cons_zero, List.set_cons_succ, List.drop_zero, List.drop_succ_cons, List.take_zero, List.take_succ_cons, Nat.zero_add, Nat.add_zero, Nat.reduceAdd, List.cons_append, List.nil_append, List.eraseIdx_cons_zero, List.eraseIdx_cons_succ])
          refine W ?_
          (first | refine LS_gt rfl ?_ ?_ | refine LS_gf rfl ?_ ?_ | refine LI_cond rfl ?_ ?_) <;> intro hc <;> have hc' := hc <;> try simp only [decide_eq_true_eq, decide_eq_false_iff_not, Bool.not_eq_true', Bool.not_eq_false', Bool.not_eq_true, Bool.not_eq_false, beq_iff_eq, bne_iff_ne, beq_eq_false_iff_ne, bne_eq_false_iff_eq, Int.not_lt, Int.not_le, ge_iff_le, gt_iff_lt, not_and, ne_eq, Decidable.not_not] at hc'
          all_goals (try (dsimp only [st, setL, AV.cells, List.set_cons_zero, List.set_cons_succ, List.drop_zero, List.drop_succ_cons, List.take_zero, List.take_succ_cons, Nat.zero_add, Nat.add_zero, Nat.reduceAdd, List.cons_append, List.nil_append, List.eraseIdx_cons_zero, List.eraseIdx_cons_succ]))
          all_goals (refine W ?_)
          · rw [comm_bad hxm hym (of_decide_eq_false (nt hc))]
            refine RET fun h' HL => ?_
            try dsimp only [oneA]
            exact ⟨rfl, HL.le⟩
          · refine LIL_drop 2 ?_
            refine IH2 (m2 - 1) _ _ (by omega) ⟨j + 1, exJ rfl, rfl, by omega, by omega, ?_⟩
            intro k b hb hlt
            by_cases e : k = j.toNat
            · subst e; rw [hy] at hb; cases hb; exact of_decide_eq_true (nf hc)
            · exact gg k b hb (by omega)
        · refine IH (m - 1) _ _ (by omega) ⟨i + 1, exJ rfl, rfl, by omega, by omega, ?_⟩
          intro k j' a b ha hb hlt hki
          by_cases e : k = i.toNat
          · subst e; rw [hx] at ha; cases ha; exact gg j' b hb (by omega)
          · exact hg k j' a b ha hb hlt (by omega)
      · rw [comm_half fun k j a b ha hb hlt => hg k j a b ha hb hlt (by have := (List.getElem?_eq_some_iff.1 ha).1; omega)]
        refine RET fun h' HL => ?_
        try dsimp only [oneA]
        exact ⟨rfl, HL.le⟩
  · have hok : alikeOk ll = false := by rw [alikeOk, decide_eq_false (by omega), Bool.false_and]
    rw [hok]
    refine RET fun h' HL => ?_
    try dsimp only [oneA]
    exact ⟨rfl, HL.le⟩

theorem lawFnExactDoCommute_ac (ll : List (List Int)) (v : AV) (vs : List AV) (h : AH) (hR : RdSS h v ll vs) (hw0 : ∀ r ∈ ll, r.length ≤ maxLen ∧ ∀ n ∈ r, (Lit.int .i64 n).wf = true) (hm0 : ll.length ≤ maxLen) :
    AC Try.prog 3 [v] h (fun r h' => r = .b true) := by
  have hmx : maxLen ≤ 9223372036854775807 := by decide
  have hll : ll.length ≤ 9223372036854775807 := Nat.le_trans hm0 hmx
  have hl : ∀ l ∈ ll, l.length ≤ 9223372036854775807 := fun l hl => Nat.le_trans (hw0 l hl).1 hmx
  refine e3 _ fun wf => ?_
  unfold c3
  refine LI_start wf ?_
  refine W ?_
  refine LS_cq (fun h' HL wf => (szIntSS_ac ll v vs _ h' (hR.le HL.le) (by omega) (by omega) hll hl).mono fun r h'' ⟨e1, e2⟩ => ⟨e1, by rw [e2]; exact .refl _⟩) rfl rfl ?_
  try (dsimp only [st, setL, AV.cells, List.set_cons_zero, List.set_cons_succ, List.drop_zero, List.drop_succ_cons, List.take_zero, List.take_succ_cons, Nat.zero_add, Nat.add_zero, Nat.reduceAdd, List.cons_append, List.nil_append, List.eraseIdx_cons_zero, List.eraseIdx_cons_succ])
  refine W ?_
  rintro _ ⟨z, rfl, hz⟩
  try (dsimp only [st, setL, AV.cells, List.set_cons_zero, List.set_cons_succ, List.drop_zero, List.drop_succ_cons, List.take_zero, List.take_succ_cons, Nat.zero_add, Nat.add_zero, Nat.reduceAdd, List.cons_append, List.nil_append, List.eraseIdx_cons_zero, List.eraseIdx_cons_succ])
  refine W ?_
  (first | refine LS_gt rfl ?_ ?_ | refine LS_gf rfl ?_ ?_ | refine LI_cond rfl ?_ ?_) <;> intro hc <;> have hc' := hc <;> try simp only [decide_eq_true_eq, decide_eq_false_iff_not, Bool.not_eq_true', Bool.not_eq_false', Bool.not_eq_true, Bool.not_eq_false, beq_iff_eq, bne_iff_ne, beq_eq_false_iff_ne, bne_eq_false_iff_eq, Int.not_lt, Int.not_le, ge_iff_le, gt_iff_lt, not_and, ne_eq, Decidable.not_not] at hc'
  all_goals (try (dsimp only [st, setL, AV.cells, List.set_cons_zero, List.set_cons_succ, List.drop_zero, List.drop_succ_cons, List.take_zero, List.take_succ_cons, Nat.zero_add, Nat.add_zero, Nat.reduceAdd, List.cons_append, List.nil_append, List.eraseIdx_cons_zero, List.eraseIdx_cons_succ]))
  all_goals (refine W ?_)
  · refine RET fun h' HL => ?_
    try dsimp only [oneA]
  · have hz' := hz hc'
    have hnn := totL_nn ll
    have hll' : ll.length ≤ 1048576 := by omega
    have hl' : ∀ l ∈ ll, l.length ≤ 1048576 := fun l hm => by have := totL_mem hm; omega
    refine LS_c1 (fun h' HL wf => toIntSSI_ac ll v vs h' (hR.le HL.le) hll' hl') rfl rfl ?_
    try (dsimp only [st, setL, AV.cells, List.set_cons_zero, List.set_cons_succ, List.drop_zero, List.drop_succ_cons, List.take_zero, List.take_succ_cons, Nat.zero_add, Nat.add_zero, Nat.reduceAdd, List.cons_append, List.nil_append, List.eraseIdx_cons_zero, List.eraseIdx_cons_succ])
    refine W ?_
    rintro x1 _ ⟨us1, hu1, lx1, sx1, rfl⟩
    try (dsimp only [st, setL, AV.cells, List.set_cons_zero, List.set_cons_succ, List.drop_zero, List.drop_succ_cons, List.take_zero, List.take_succ_cons, Nat.zero_add, Nat.add_zero, Nat.reduceAdd, List.cons_append, List.nil_append, List.eraseIdx_cons_zero, List.eraseIdx_cons_succ])
    refine W ?_
    refine LS_c0 (fun h' HL wf => specDo_ac ll x1 us1 h' (ssI_rd [] [] HL hu1) hll' hl') rfl rfl ?_
    try (dsimp only [st, setL, AV.cells, List.set_cons_zero, List.set_cons_succ, List.drop_zero, List.drop_succ_cons, List.take_zero, List.take_succ_cons, Nat.zero_add, Nat.add_zero, Nat.reduceAdd, List.cons_append, List.nil_append, List.eraseIdx_cons_zero, List.eraseIdx_cons_succ])
    refine W ?_
    refine LS_c1 (fun h' HL wf => toIntSSI_ac ll v vs h' (hR.le HL.le) hll' hl') rfl rfl ?_
    try (dsimp only [st, setL, AV.cells, List.set_cons_zero, List.set_cons_succ, List.drop_zero, List.drop_succ_cons, List.take_zero, List.take_succ_cons, Nat.zero_add, Nat.add_zero, Nat.reduceAdd, List.cons_append, List.nil_append, List.eraseIdx_cons_zero, List.eraseIdx_cons_succ])
    refine W ?_
    rintro x2 _ ⟨us2, hu2, lx2, sx2, rfl⟩
    try (dsimp only [st, setL, AV.cells, List.set_cons_zero, List.set_cons_succ, List.drop_zero, List.drop_succ_cons, List.take_zero, List.take_succ_cons, Nat.zero_add, Nat.add_zero, Nat.reduceAdd, List.cons_append, List.nil_append, List.eraseIdx_cons_zero, List.eraseIdx_cons_succ])
    refine W ?_
    refine LS_c0 (fun h' HL wf => implDo_ac ll x2 us2 h' (ssI_rd [] _ HL hu2) hll' hl') rfl rfl ?_
    try (dsimp only [st, setL, AV.cells, List.set_cons_zero, List.set_cons_succ, List.drop_zero, List.drop_succ_cons, List.take_zero, List.take_succ_cons, Nat.zero_add, Nat.add_zero, Nat.reduceAdd, List.cons_append, List.nil_append, List.eraseIdx_cons_zero, List.eraseIdx_cons_succ])
    refine W ?_
    first | (refine LS_gyH rfl (by simp) ?_; intro hg) | (refine LI_cond_tH rfl (by simp) ?_; intro hg)
    refine W ?_
    first | (refine LS_gtnH rfl (by simp) ?_; intro hg; try (dsimp only [st, setL, AV.cells, List.set_cons_zero, List.set_cons_succ, List.drop_zero, List.drop_succ_cons, List.take_zero, List.take_succ_cons, Nat.zero_add, Nat.add_zero, Nat.reduceAdd, List.cons_append, List.nil_append, List.eraseIdx_cons_zero, List.eraseIdx_cons_succ])) | (refine LS_gfnH rfl (by simp) ?_; intro hg; try (dsimp only [st, setL, AV.cells, List.set_cons_zero, List.set_cons_succ, List.drop_zero, List.drop_succ_cons, List.take_zero, List.take_succ_cons, Nat.zero_add, Nat.add_zero, Nat.reduceAdd, List.cons_append, List.nil_append, List.eraseIdx_cons_zero, List.eraseIdx_cons_succ])) | (refine LI_cond_fH rfl (by simp) ?_; intro hg)
    refine W ?_
    refine LS_c1 (fun h' HL wf => toIntSSI_ac ll v vs h' (hR.le HL.le) hll' hl') rfl rfl ?_
    try (dsimp only [st, setL, AV.cells, List.set_cons_zero, List.set_cons_succ, List.drop_zero, List.drop_succ_cons, List.take_zero, List.take_succ_cons, Nat.zero_add, Nat.add_zero, Nat.reduceAdd, List.cons_append, List.nil_append, List.eraseIdx_cons_zero, List.eraseIdx_cons_succ])
    refine W ?_
    rintro x3 _ ⟨us3, hu3, lx3, sx3, rfl⟩
    try (dsimp only [st, setL, AV.cells, List.set_cons_zero, List.set_cons_succ, List.drop_zero, List.drop_succ_cons, List.take_zero, List.take_succ_cons, Nat.zero_add, Nat.add_zero, Nat.reduceAdd, List.cons_append, List.nil_append, List.eraseIdx_cons_zero, List.eraseIdx_cons_succ])
    refine W ?_
    refine LS_c0' (fun h' HL wf => eqIntSS_same ll x2 x3 us2 us3 h' (ssI_rd _ _ HL hu2) (ssI_rd [] _ HL hu3) (by omega) (fun l hm => by have := hl' l hm; omega)) rfl rfl ?_
    try (dsimp only [st, setL, AV.cells, List.set_cons_zero, List.set_cons_succ, List.drop_zero, List.drop_succ_cons, List.take_zero, List.take_succ_cons, Nat.zero_add, Nat.add_zero, Nat.reduceAdd, List.cons_append, List.nil_append, List.eraseIdx_cons_zero, List.eraseIdx_cons_succ])
    refine W ?_
    try ((first | (refine LS_gtnH rfl (by simp) ?_; intro hg; try (dsimp only [st, setL, AV.cells, List.set_cons_zero, List.set_cons_succ, List.drop_zero, List.drop_succ_cons, List.take_zero, List.take_succ_cons, Nat.zero_add, Nat.add_zero, Nat.reduceAdd, List.cons_append, List.nil_append, List.eraseIdx_cons_zero, List.eraseIdx_cons_succ])) | (refine LS_gfnH rfl (by simp) ?_; intro hg; try (dsimp only [st, setL, AV.cells, List.set_cons_zero, List.set_cons_succ, List.drop_zero, List.drop_succ_cons, List.take_zero, List.take_succ_cons, Nat.zero_add, Nat.add_zero, Nat.reduceAdd, List.cons_append, List.nil_append, List.eraseIdx_cons_zero, List.eraseIdx_cons_succ])) | (refine LI_cond_fH rfl (by simp) ?_; intro hg)); refine W ?_)
    refine RET fun h' HL => ?_
    try dsimp only [oneA]

def RowsRd (h : AH) (us : List AV) (ll : List (List Int)) : Prop := us.length = ll.length ∧ ∀ (i : Nat) (u : AV) (l : List Int), us[i]? = some u → ll[i]? = some l → Rd h u l

theorem RowsRd.at_ {h : AH} {us : List AV} {ll : List (List Int)} (H : RowsRd h us ll) {i : Nat} {l : List Int} (hl : ll[i]? = some l) : ∃ u, us[i]? = some u ∧ Rd h u l := by
  have hi : i < us.length := by rw [H.1]; exact (List.getElem?_eq_some_iff.1 hl).1
  exact ⟨us[i], List.getElem?_eq_getElem hi, H.2 i _ l (List.getElem?_eq_getElem hi) hl⟩
end Go.Proofs.Ytcopnjopglfllaa
