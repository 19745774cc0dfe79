/- The walk of the law FnExactOrderModulo, part 1: what each function that it reaches computes. -/
import Derived.Test.YtfgealbhigkddaaCFnExactOrderModulo
namespace Go.Proofs.Ytfgealbhigkddaa
open Go.AL
set_option linter.unusedVariables false
set_option linter.unusedSimpArgs false
set_option maxRecDepth 100000
attribute [local irreducible] AS AI AIL OpR AC CW AWP ALoop

theorem in_ac (n lo hi : Int) (h : AH) : AC Try.prog 49 [.i .i64 n, .i .i64 lo, .i .i64 hi] h (fun v h' => v = .b (decide (lo ≤ n ∧ n ≤ hi)) ∧ h = h') := by
  refine e49 _ _ _ fun wf => ?_
  unfold c49
  repeat
    first
      | refine AI_seqk fun K hK => ?_
      | refine AI_reg ?_
      | (refine AS_op (OpR_move rfl ?_); try (simp only [st, List.set_cons_zero, List.set_cons_succ]))
      | (refine AS_op (OpR_assign rfl ?_); try (simp only [st, List.set_cons_zero, List.set_cons_succ]))
      | (refine AS_op (OpR_arith _ rfl rfl rfl (by omega) (by omega) ?_); try (simp only [st, List.set_cons_zero, List.set_cons_succ]))
      | (refine AS_op (OpR_bin rfl rfl rfl ?_); try (simp only [st, List.set_cons_zero, List.set_cons_succ]))
      | (refine AS_op (OpR_not rfl ?_); try (simp only [st, List.set_cons_zero, List.set_cons_succ]))
      | (refine AS_op (OpR_extract rfl rfl ?_); try (simp only [st, List.set_cons_zero, List.set_cons_succ]))
      | (refine AS_op (OpR_pick_b rfl rfl rfl ?_); try (simp only [st, List.set_cons_zero, List.set_cons_succ]))
      | (refine AS_op (OpR_makeFunc rfl ?_); try (simp only [st, List.set_cons_zero, List.set_cons_succ]))
      | (refine AS_op (OpR_beq Try.underlying4 rfl rfl _ (.inr ⟨rfl, rfl⟩) ?_); try (simp only [st, List.set_cons_zero, List.set_cons_succ]))
      | (refine AS_op (OpR_beq Try.underlying4 rfl rfl _ (.inl ⟨rfl, rfl⟩) ?_); try (simp only [st, List.set_cons_zero, List.set_cons_succ]))
      | (refine AS_nil ?_; try simp only [AThen, ABlk, reduceIte, reduceCtorEq])
      | (refine hK _ _ ?_; try (first | clear hK K | clear IH hK K))
      | ((first | clear hK K | clear IH hK K); refine hK _ _ ?_; try (first | clear hK K | clear IH hK K))
      | ((first | clear hK K | clear IH hK K); (first | clear hK K | clear IH hK K); refine hK _ _ ?_; try (first | clear hK K | clear IH hK K))
      | ((first | clear hK K | clear IH hK K); (first | clear hK K | clear IH hK K); (first | clear hK K | clear IH hK K); refine hK _ _ ?_; try (first | clear hK K | clear IH hK K))
      | (refine AI_skip ?_; try simp only [AThen, ABlk, reduceIte, reduceCtorEq])
      | (refine AI_exit ?_; try simp only [AThen, ABlk, reduceIte, reduceCtorEq])
      | refine AI_cond_t rfl (by first | assumption | with_reducible rfl) ?_
      | refine AI_cond_f rfl (by first | assumption | with_reducible rfl) ?_
      | (refine AS_op (OpR_pick_t rfl (by first | assumption | with_reducible rfl) rfl ?_); try (simp only [st, List.set_cons_zero, List.set_cons_succ]))
      | (refine AS_op (OpR_pick_f rfl (by first | assumption | with_reducible rfl) rfl ?_); try (simp only [st, List.set_cons_zero, List.set_cons_succ]))
      | refine AS_gy rfl (by first | assumption | with_reducible rfl) ?_
      | (refine AS_gtn rfl (by first | assumption | with_reducible rfl) ?_)
      | (refine AS_gfn rfl (by first | assumption | with_reducible rfl) ?_)
      | refine AI_block (AI_loop ?_)
      | refine AI_block ?_
      | refine AI_ret ⟨_, rfl, ?_⟩
  (first | refine AS_gt rfl ?_ ?_ | refine AS_gf rfl ?_ ?_ | refine AI_cond rfl ?_ ?_) <;> intro hc <;> have hc' := hc <;> (try simp only [decide_eq_true_eq, decide_eq_false_iff_not, Bool.not_eq_true', Bool.not_eq_false', Bool.not_eq_true, Bool.not_eq_false, beq_iff_eq, bne_iff_ne, beq_eq_false_iff_ne, bne_eq_false_iff_eq, Int.not_lt, Int.not_le, ge_iff_le, gt_iff_lt, not_and, ne_eq, Decidable.not_not] at hc')
  all_goals
    repeat
      first
        | refine AI_seqk fun K hK => ?_
        | refine AI_reg ?_
        | (refine AS_op (OpR_move rfl ?_); try (simp only [st, List.set_cons_zero, List.set_cons_succ]))
        | (refine AS_op (OpR_assign rfl ?_); try (simp only [st, List.set_cons_zero, List.set_cons_succ]))
        | (refine AS_op (OpR_arith _ rfl rfl rfl (by omega) (by omega) ?_); try (simp only [st, List.set_cons_zero, List.set_cons_succ]))
        | (refine AS_op (OpR_bin rfl rfl rfl ?_); try (simp only [st, List.set_cons_zero, List.set_cons_succ]))
        | (refine AS_op (OpR_not rfl ?_); try (simp only [st, List.set_cons_zero, List.set_cons_succ]))
        | (refine AS_op (OpR_extract rfl rfl ?_); try (simp only [st, List.set_cons_zero, List.set_cons_succ]))
        | (refine AS_op (OpR_pick_b rfl rfl rfl ?_); try (simp only [st, List.set_cons_zero, List.set_cons_succ]))
        | (refine AS_op (OpR_makeFunc rfl ?_); try (simp only [st, List.set_cons_zero, List.set_cons_succ]))
        | (refine AS_op (OpR_beq Try.underlying4 rfl rfl _ (.inr ⟨rfl, rfl⟩) ?_); try (simp only [st, List.set_cons_zero, List.set_cons_succ]))
        | (refine AS_op (OpR_beq Try.underlying4 rfl rfl _ (.inl ⟨rfl, rfl⟩) ?_); try (simp only [st, List.set_cons_zero, List.set_cons_succ]))
        | (refine AS_nil ?_; try simp only [AThen, ABlk, reduceIte, reduceCtorEq])
        | (refine hK _ _ ?_; try (first | clear hK K | clear IH hK K))
        | ((first | clear hK K | clear IH hK K); refine hK _ _ ?_; try (first | clear hK K | clear IH hK K))
        | ((first | clear hK K | clear IH hK K); (first | clear hK K | clear IH hK K); refine hK _ _ ?_; try (first | clear hK K | clear IH hK K))
        | ((first | clear hK K | clear IH hK K); (first | clear hK K | clear IH hK K); (first | clear hK K | clear IH hK K); refine hK _ _ ?_; try (first | clear hK K | clear IH hK K))
        | (refine AI_skip ?_; try simp only [AThen, ABlk, reduceIte, reduceCtorEq])
        | (refine AI_exit ?_; try simp only [AThen, ABlk, reduceIte, reduceCtorEq])
        | refine AI_cond_t rfl (by first | assumption | with_reducible rfl) ?_
        | refine AI_cond_f rfl (by first | assumption | with_reducible rfl) ?_
        | (refine AS_op (OpR_pick_t rfl (by first | assumption | with_reducible rfl) rfl ?_); try (simp only [st, List.set_cons_zero, List.set_cons_succ]))
        | (refine AS_op (OpR_pick_f rfl (by first | assumption | with_reducible rfl) rfl ?_); try (simp only [st, List.set_cons_zero, List.set_cons_succ]))
        | refine AS_gy rfl (by first | assumption | with_reducible rfl) ?_
        | (refine AS_gtn rfl (by first | assumption | with_reducible rfl) ?_)
        | (refine AS_gfn rfl (by first | assumption | with_reducible rfl) ?_)
        | refine AI_block (AI_loop ?_)
        | refine AI_block ?_
        | refine AI_ret ⟨_, rfl, ?_⟩
  · exact ⟨by simp [hc', oneA], rfl⟩
  · exact ⟨by first | (simp [oneA, hc']; done) | (simp [oneA, hc']; omega), rfl⟩

theorem l1In_ac (n lo hi : Int) (h : AH) : AC Try.prog 42 [.i .i64 n, .i .i64 lo, .i .i64 hi] h (fun v h' => v = .b (decide (lo ≤ n ∧ n ≤ hi)) ∧ h = h') := by
  refine e42 _ _ _ fun wf => ?_
  unfold c42
  repeat
    first
      | refine AI_seqk fun K hK => ?_
      | refine AI_reg ?_
      | (refine AS_op (OpR_move rfl ?_); try (simp only [st, List.set_cons_zero, List.set_cons_succ]))
      | (refine AS_op (OpR_assign rfl ?_); try (simp only [st, List.set_cons_zero, List.set_cons_succ]))
      | (refine AS_op (OpR_arith _ rfl rfl rfl (by omega) (by omega) ?_); try (simp only [st, List.set_cons_zero, List.set_cons_succ]))
      | (refine AS_op (OpR_bin rfl rfl rfl ?_); try (simp only [st, List.set_cons_zero, List.set_cons_succ]))
      | (refine AS_op (OpR_not rfl ?_); try (simp only [st, List.set_cons_zero, List.set_cons_succ]))
      | (refine AS_op (OpR_extract rfl rfl ?_); try (simp only [st, List.set_cons_zero, List.set_cons_succ]))
      | (refine AS_op (OpR_pick_b rfl rfl rfl ?_); try (simp only [st, List.set_cons_zero, List.set_cons_succ]))
      | (refine AS_op (OpR_makeFunc rfl ?_); try (simp only [st, List.set_cons_zero, List.set_cons_succ]))
      | (refine AS_op (OpR_beq Try.underlying4 rfl rfl _ (.inr ⟨rfl, rfl⟩) ?_); try (simp only [st, List.set_cons_zero, List.set_cons_succ]))
      | (refine AS_op (OpR_beq Try.underlying4 rfl rfl _ (.inl ⟨rfl, rfl⟩) ?_); try (simp only [st, List.set_cons_zero, List.set_cons_succ]))
      | (refine AS_nil ?_; try simp only [AThen, ABlk, reduceIte, reduceCtorEq])
      | (refine hK _ _ ?_; try (first | clear hK K | clear IH hK K))
      | ((first | clear hK K | clear IH hK K); refine hK _ _ ?_; try (first | clear hK K | clear IH hK K))
      | ((first | clear hK K | clear IH hK K); (first | clear hK K | clear IH hK K); refine hK _ _ ?_; try (first | clear hK K | clear IH hK K))
      | ((first | clear hK K | clear IH hK K); (first | clear hK K | clear IH hK K); (first | clear hK K | clear IH hK K); refine hK _ _ ?_; try (first | clear hK K | clear IH hK K))
      | (refine AI_skip ?_; try simp only [AThen, ABlk, reduceIte, reduceCtorEq])
      | (refine AI_exit ?_; try simp only [AThen, ABlk, reduceIte, reduceCtorEq])
      | refine AI_cond_t rfl (by first | assumption | with_reducible rfl) ?_
      | refine AI_cond_f rfl (by first | assumption | with_reducible rfl) ?_
      | (refine AS_op (OpR_pick_t rfl (by first | assumption | with_reducible rfl) rfl ?_); try (simp only [st, List.set_cons_zero, List.set_cons_succ]))
      | (refine AS_op (OpR_pick_f rfl (by first | assumption | with_reducible rfl) rfl ?_); try (simp only [st, List.set_cons_zero, List.set_cons_succ]))
      | refine AS_gy rfl (by first | assumption | with_reducible rfl) ?_
      | (refine AS_gtn rfl (by first | assumption | with_reducible rfl) ?_)
      | (refine AS_gfn rfl (by first | assumption | with_reducible rfl) ?_)
      | refine AI_block (AI_loop ?_)
      | refine AI_block ?_
      | refine AI_ret ⟨_, rfl, ?_⟩
  (first | refine AS_gt rfl ?_ ?_ | refine AS_gf rfl ?_ ?_ | refine AI_cond rfl ?_ ?_) <;> intro hc <;> have hc' := hc <;> (try simp only [decide_eq_true_eq, decide_eq_false_iff_not, Bool.not_eq_true', Bool.not_eq_false', Bool.not_eq_true, Bool.not_eq_false, beq_iff_eq, bne_iff_ne, beq_eq_false_iff_ne, bne_eq_false_iff_eq, Int.not_lt, Int.not_le, ge_iff_le, gt_iff_lt, not_and, ne_eq, Decidable.not_not] at hc')
  all_goals
    repeat
      first
        | refine AI_seqk fun K hK => ?_
        | refine AI_reg ?_
        | (refine AS_op (OpR_move rfl ?_); try (simp only [st, List.set_cons_zero, List.set_cons_succ]))
        | (refine AS_op (OpR_assign rfl ?_); try (simp only [st, List.set_cons_zero, List.set_cons_succ]))
        | (refine AS_op (OpR_arith _ rfl rfl rfl (by omega) (by omega) ?_); try (simp only [st, List.set_cons_zero, List.set_cons_succ]))
        | (refine AS_op (OpR_bin rfl rfl rfl ?_); try (simp only [st, List.set_cons_zero, List.set_cons_succ]))
        | (refine AS_op (OpR_not rfl ?_); try (simp only [st, List.set_cons_zero, List.set_cons_succ]))
        | (refine AS_op (OpR_extract rfl rfl ?_); try (simp only [st, List.set_cons_zero, List.set_cons_succ]))
        | (refine AS_op (OpR_pick_b rfl rfl rfl ?_); try (simp only [st, List.set_cons_zero, List.set_cons_succ]))
        | (refine AS_op (OpR_makeFunc rfl ?_); try (simp only [st, List.set_cons_zero, List.set_cons_succ]))
        | (refine AS_op (OpR_beq Try.underlying4 rfl rfl _ (.inr ⟨rfl, rfl⟩) ?_); try (simp only [st, List.set_cons_zero, List.set_cons_succ]))
        | (refine AS_op (OpR_beq Try.underlying4 rfl rfl _ (.inl ⟨rfl, rfl⟩) ?_); try (simp only [st, List.set_cons_zero, List.set_cons_succ]))
        | (refine AS_nil ?_; try simp only [AThen, ABlk, reduceIte, reduceCtorEq])
        | (refine hK _ _ ?_; try (first | clear hK K | clear IH hK K))
        | ((first | clear hK K | clear IH hK K); refine hK _ _ ?_; try (first | clear hK K | clear IH hK K))
        | ((first | clear hK K | clear IH hK K); (first | clear hK K | clear IH hK K); refine hK _ _ ?_; try (first | clear hK K | clear IH hK K))
        | ((first | clear hK K | clear IH hK K); (first | clear hK K | clear IH hK K); (first | clear hK K | clear IH hK K); refine hK _ _ ?_; try (first | clear hK K | clear IH hK K))
        | (refine AI_skip ?_; try simp only [AThen, ABlk, reduceIte, reduceCtorEq])
        | (refine AI_exit ?_; try simp only [AThen, ABlk, reduceIte, reduceCtorEq])
        | refine AI_cond_t rfl (by first | assumption | with_reducible rfl) ?_
        | refine AI_cond_f rfl (by first | assumption | with_reducible rfl) ?_
        | (refine AS_op (OpR_pick_t rfl (by first | assumption | with_reducible rfl) rfl ?_); try (simp only [st, List.set_cons_zero, List.set_cons_succ]))
        | (refine AS_op (OpR_pick_f rfl (by first | assumption | with_reducible rfl) rfl ?_); try (simp only [st, List.set_cons_zero, List.set_cons_succ]))
        | refine AS_gy rfl (by first | assumption | with_reducible rfl) ?_
        | (refine AS_gtn rfl (by first | assumption | with_reducible rfl) ?_)
        | (refine AS_gfn rfl (by first | assumption | with_reducible rfl) ?_)
        | refine AI_block (AI_loop ?_)
        | refine AI_block ?_
        | refine AI_ret ⟨_, rfl, ?_⟩
  · exact ⟨by simp [hc', oneA], rfl⟩
  · exact ⟨by first | (simp [oneA, hc']; done) | (simp [oneA, hc']; omega), rfl⟩

/-- A predicate handed over: what it answers, in whatever heap that has grown. -/
def Pred {α : Type} (P : Program) (g : FuncId) (caps : List AV) (enc : α → AV) (h : AH) (p : α → Bool) (l : List α) : Prop :=
  ∀ x ∈ l, ∀ h', h.le h' → AC P g (enc x :: caps) h' (fun v h'' => v = .b (p x) ∧ h'.le h'')

/-- The first place from i on. -/
def idxFrom {α : Type} (p : α → Bool) : List α → Int → Int
  | [], _ => -1
  | x :: l, i => if p x then i else idxFrom p l (i + 1)

theorem idxFrom_any {α : Type} (p : α → Bool) : ∀ (l : List α) (i : Int), 0 ≤ i → (decide (0 ≤ idxFrom p l i)) = l.any p
  | [], i, _ => by simp [idxFrom]
  | x :: l, i, h => by
    cases hp : p x <;> simp [idxFrom, hp, h]
    rw [← idxFrom_any p l (i + 1) (by omega)]

theorem drop_at {α : Type} {l : List α} {i : Int} (h0 : 0 ≤ i) (h1 : i < l.length) : ∃ y, l[i.toNat]? = some y ∧ y ∈ l ∧ l.drop i.toNat = y :: l.drop (i.toNat + 1) := by
  have hlt : i.toNat < l.length := by omega
  exact ⟨l[i.toNat], List.getElem?_eq_getElem hlt, List.getElem_mem hlt, List.drop_eq_getElem_cons hlt⟩

theorem toNat_succ {i : Int} (h0 : 0 ≤ i) : (i + 1).toNat = i.toNat + 1 := by omega

theorem IndexFunc_int_ac (l : List Int) (v : AV) (g : FuncId) (caps : List AV) (p : Int → Bool) (h : AH) (hR : RdG 1 enI h v l) (hl : l.length ≤ 4611686018427387904)
    (hp : Pred Try.prog g caps (.i .i64) h p l) :
    AC Try.prog 78 [v, .f g caps] h (fun r h' => r = .i .i64 (idxFrom p l 0) ∧ h.le h') := by
  refine e78 _ _ fun wf => ?_
  unfold c78
  repeat
    first
      | refine AI_seqk fun K hK => ?_
      | refine AI_reg ?_
      | (refine AS_op (OpR_move rfl ?_); try (simp only [st, List.set_cons_zero, List.set_cons_succ]))
      | (refine AS_op (OpR_assign rfl ?_); try (simp only [st, List.set_cons_zero, List.set_cons_succ]))
      | (refine AS_op (OpR_arith _ rfl rfl rfl (by omega) (by omega) ?_); try (simp only [st, List.set_cons_zero, List.set_cons_succ]))
      | (refine AS_op (OpR_bin rfl rfl rfl ?_); try (simp only [st, List.set_cons_zero, List.set_cons_succ]))
      | (refine AS_op (OpR_not rfl ?_); try (simp only [st, List.set_cons_zero, List.set_cons_succ]))
      | (refine AS_op (OpR_extract rfl rfl ?_); try (simp only [st, List.set_cons_zero, List.set_cons_succ]))
      | (refine AS_op (OpR_pick_b rfl rfl rfl ?_); try (simp only [st, List.set_cons_zero, List.set_cons_succ]))
      | (refine AS_op (OpR_makeFunc rfl ?_); try (simp only [st, List.set_cons_zero, List.set_cons_succ]))
      | (refine AS_op (OpR_beq Try.underlying4 rfl rfl _ (.inr ⟨rfl, rfl⟩) ?_); try (simp only [st, List.set_cons_zero, List.set_cons_succ]))
      | (refine AS_op (OpR_beq Try.underlying4 rfl rfl _ (.inl ⟨rfl, rfl⟩) ?_); try (simp only [st, List.set_cons_zero, List.set_cons_succ]))
      | (refine AS_nil ?_; try simp only [AThen, ABlk, reduceIte, reduceCtorEq])
      | (refine hK _ _ ?_; try (first | clear hK K | clear IH hK K))
      | ((first | clear hK K | clear IH hK K); refine hK _ _ ?_; try (first | clear hK K | clear IH hK K))
      | ((first | clear hK K | clear IH hK K); (first | clear hK K | clear IH hK K); refine hK _ _ ?_; try (first | clear hK K | clear IH hK K))
      | ((first | clear hK K | clear IH hK K); (first | clear hK K | clear IH hK K); (first | clear hK K | clear IH hK K); refine hK _ _ ?_; try (first | clear hK K | clear IH hK K))
      | (refine AI_skip ?_; try simp only [AThen, ABlk, reduceIte, reduceCtorEq])
      | (refine AI_exit ?_; try simp only [AThen, ABlk, reduceIte, reduceCtorEq])
      | refine AI_cond_t rfl (by first | assumption | with_reducible rfl) ?_
      | refine AI_cond_f rfl (by first | assumption | with_reducible rfl) ?_
      | (refine AS_op (OpR_pick_t rfl (by first | assumption | with_reducible rfl) rfl ?_); try (simp only [st, List.set_cons_zero, List.set_cons_succ]))
      | (refine AS_op (OpR_pick_f rfl (by first | assumption | with_reducible rfl) rfl ?_); try (simp only [st, List.set_cons_zero, List.set_cons_succ]))
      | refine AS_gy rfl (by first | assumption | with_reducible rfl) ?_
      | (refine AS_gtn rfl (by first | assumption | with_reducible rfl) ?_)
      | (refine AS_gfn rfl (by first | assumption | with_reducible rfl) ?_)
      | refine AI_block (AI_loop ?_)
      | refine AI_block ?_
      | refine AI_ret ⟨_, rfl, ?_⟩
  refine AS_op (OpR_lenA Try.underlying25 rfl hR.len ?_)
  try (simp only [st, List.set_cons_zero, List.set_cons_succ])
  repeat
    first
      | refine AI_seqk fun K hK => ?_
      | refine AI_reg ?_
      | (refine AS_op (OpR_move rfl ?_); try (simp only [st, List.set_cons_zero, List.set_cons_succ]))
      | (refine AS_op (OpR_assign rfl ?_); try (simp only [st, List.set_cons_zero, List.set_cons_succ]))
      | (refine AS_op (OpR_arith _ rfl rfl rfl (by omega) (by omega) ?_); try (simp only [st, List.set_cons_zero, List.set_cons_succ]))
      | (refine AS_op (OpR_bin rfl rfl rfl ?_); try (simp only [st, List.set_cons_zero, List.set_cons_succ]))
      | (refine AS_op (OpR_not rfl ?_); try (simp only [st, List.set_cons_zero, List.set_cons_succ]))
      | (refine AS_op (OpR_extract rfl rfl ?_); try (simp only [st, List.set_cons_zero, List.set_cons_succ]))
      | (refine AS_op (OpR_pick_b rfl rfl rfl ?_); try (simp only [st, List.set_cons_zero, List.set_cons_succ]))
      | (refine AS_op (OpR_makeFunc rfl ?_); try (simp only [st, List.set_cons_zero, List.set_cons_succ]))
      | (refine AS_op (OpR_beq Try.underlying4 rfl rfl _ (.inr ⟨rfl, rfl⟩) ?_); try (simp only [st, List.set_cons_zero, List.set_cons_succ]))
      | (refine AS_op (OpR_beq Try.underlying4 rfl rfl _ (.inl ⟨rfl, rfl⟩) ?_); try (simp only [st, List.set_cons_zero, List.set_cons_succ]))
      | (refine AS_nil ?_; try simp only [AThen, ABlk, reduceIte, reduceCtorEq])
      | (refine hK _ _ ?_; try (first | clear hK K | clear IH hK K))
      | ((first | clear hK K | clear IH hK K); refine hK _ _ ?_; try (first | clear hK K | clear IH hK K))
      | ((first | clear hK K | clear IH hK K); (first | clear hK K | clear IH hK K); refine hK _ _ ?_; try (first | clear hK K | clear IH hK K))
      | ((first | clear hK K | clear IH hK K); (first | clear hK K | clear IH hK K); (first | clear hK K | clear IH hK K); refine hK _ _ ?_; try (first | clear hK K | clear IH hK K))
      | (refine AI_skip ?_; try simp only [AThen, ABlk, reduceIte, reduceCtorEq])
      | (refine AI_exit ?_; try simp only [AThen, ABlk, reduceIte, reduceCtorEq])
      | refine AI_cond_t rfl (by first | assumption | with_reducible rfl) ?_
      | refine AI_cond_f rfl (by first | assumption | with_reducible rfl) ?_
      | (refine AS_op (OpR_pick_t rfl (by first | assumption | with_reducible rfl) rfl ?_); try (simp only [st, List.set_cons_zero, List.set_cons_succ]))
      | (refine AS_op (OpR_pick_f rfl (by first | assumption | with_reducible rfl) rfl ?_); try (simp only [st, List.set_cons_zero, List.set_cons_succ]))
      | refine AS_gy rfl (by first | assumption | with_reducible rfl) ?_
      | (refine AS_gtn rfl (by first | assumption | with_reducible rfl) ?_)
      | (refine AS_gfn rfl (by first | assumption | with_reducible rfl) ?_)
      | refine AI_block (AI_loop ?_)
      | refine AI_block ?_
      | refine AI_ret ⟨_, rfl, ?_⟩
  refine AIL_ind (fun (n : Nat) a h' => ∃ (i : Int) (x5 x9 x10 x11 x12 x13 x14 x15 x16 x17 x18 : AV), a = [v, .f g caps, un, un, .i .i64 0, x5, v, .i .i64 l.length, .i .i64 i, x9, x10, x11, x12, x13, x14, x15, x16, x17, x18] ∧ 0 ≤ i ∧ i + n = l.length ∧ h.le h' ∧ idxFrom p l 0 = idxFrom p (l.drop i.toNat) i)
    ?_ l.length _ _ ⟨0, _, _, _, _, _, _, _, _, _, _, _, rfl, by omega, by omega, .refl _, rfl⟩
  rintro n a h' ⟨i, x5, x9, x10, x11, x12, x13, x14, x15, x16, x17, x18, rfl, h0, hn, hle, hidx⟩ IH
  repeat
    first
      | refine AI_seqk fun K hK => ?_
      | refine AI_reg ?_
      | (refine AS_op (OpR_move rfl ?_); try (simp only [st, List.set_cons_zero, List.set_cons_succ]))
      | (refine AS_op (OpR_assign rfl ?_); try (simp only [st, List.set_cons_zero, List.set_cons_succ]))
      | (refine AS_op (OpR_arith _ rfl rfl rfl (by omega) (by omega) ?_); try (simp only [st, List.set_cons_zero, List.set_cons_succ]))
      | (refine AS_op (OpR_bin rfl rfl rfl ?_); try (simp only [st, List.set_cons_zero, List.set_cons_succ]))
      | (refine AS_op (OpR_not rfl ?_); try (simp only [st, List.set_cons_zero, List.set_cons_succ]))
      | (refine AS_op (OpR_extract rfl rfl ?_); try (simp only [st, List.set_cons_zero, List.set_cons_succ]))
      | (refine AS_op (OpR_pick_b rfl rfl rfl ?_); try (simp only [st, List.set_cons_zero, List.set_cons_succ]))
      | (refine AS_op (OpR_makeFunc rfl ?_); try (simp only [st, List.set_cons_zero, List.set_cons_succ]))
      | (refine AS_op (OpR_beq Try.underlying4 rfl rfl _ (.inr ⟨rfl, rfl⟩) ?_); try (simp only [st, List.set_cons_zero, List.set_cons_succ]))
      | (refine AS_op (OpR_beq Try.underlying4 rfl rfl _ (.inl ⟨rfl, rfl⟩) ?_); try (simp only [st, List.set_cons_zero, List.set_cons_succ]))
      | (refine AS_nil ?_; try simp only [AThen, ABlk, reduceIte, reduceCtorEq])
      | (refine hK _ _ ?_; try (first | clear hK K | clear IH hK K))
      | ((first | clear hK K | clear IH hK K); refine hK _ _ ?_; try (first | clear hK K | clear IH hK K))
      | ((first | clear hK K | clear IH hK K); (first | clear hK K | clear IH hK K); refine hK _ _ ?_; try (first | clear hK K | clear IH hK K))
      | ((first | clear hK K | clear IH hK K); (first | clear hK K | clear IH hK K); (first | clear hK K | clear IH hK K); refine hK _ _ ?_; try (first | clear hK K | clear IH hK K))
      | (refine AI_skip ?_; try simp only [AThen, ABlk, reduceIte, reduceCtorEq])
      | (refine AI_exit ?_; try simp only [AThen, ABlk, reduceIte, reduceCtorEq])
      | refine AI_cond_t rfl (by first | assumption | with_reducible rfl) ?_
      | refine AI_cond_f rfl (by first | assumption | with_reducible rfl) ?_
      | (refine AS_op (OpR_pick_t rfl (by first | assumption | with_reducible rfl) rfl ?_); try (simp only [st, List.set_cons_zero, List.set_cons_succ]))
      | (refine AS_op (OpR_pick_f rfl (by first | assumption | with_reducible rfl) rfl ?_); try (simp only [st, List.set_cons_zero, List.set_cons_succ]))
      | refine AS_gy rfl (by first | assumption | with_reducible rfl) ?_
      | (refine AS_gtn rfl (by first | assumption | with_reducible rfl) ?_)
      | (refine AS_gfn rfl (by first | assumption | with_reducible rfl) ?_)
      | refine AI_block (AI_loop ?_)
      | refine AI_block ?_
      | refine AI_ret ⟨_, rfl, ?_⟩
  (first | refine AS_gt rfl ?_ ?_ | refine AS_gf rfl ?_ ?_ | refine AI_cond rfl ?_ ?_) <;> intro hc <;> have hc' := hc <;> (try simp only [decide_eq_true_eq, decide_eq_false_iff_not, Bool.not_eq_true', Bool.not_eq_false', Bool.not_eq_true, Bool.not_eq_false, beq_iff_eq, bne_iff_ne, beq_eq_false_iff_ne, bne_eq_false_iff_eq, Int.not_lt, Int.not_le, ge_iff_le, gt_iff_lt, not_and, ne_eq, Decidable.not_not] at hc')
  all_goals
    repeat
      first
        | refine AI_seqk fun K hK => ?_
        | refine AI_reg ?_
        | (refine AS_op (OpR_move rfl ?_); try (simp only [st, List.set_cons_zero, List.set_cons_succ]))
        | (refine AS_op (OpR_assign rfl ?_); try (simp only [st, List.set_cons_zero, List.set_cons_succ]))
        | (refine AS_op (OpR_arith _ rfl rfl rfl (by omega) (by omega) ?_); try (simp only [st, List.set_cons_zero, List.set_cons_succ]))
        | (refine AS_op (OpR_bin rfl rfl rfl ?_); try (simp only [st, List.set_cons_zero, List.set_cons_succ]))
        | (refine AS_op (OpR_not rfl ?_); try (simp only [st, List.set_cons_zero, List.set_cons_succ]))
        | (refine AS_op (OpR_extract rfl rfl ?_); try (simp only [st, List.set_cons_zero, List.set_cons_succ]))
        | (refine AS_op (OpR_pick_b rfl rfl rfl ?_); try (simp only [st, List.set_cons_zero, List.set_cons_succ]))
        | (refine AS_op (OpR_makeFunc rfl ?_); try (simp only [st, List.set_cons_zero, List.set_cons_succ]))
        | (refine AS_op (OpR_beq Try.underlying4 rfl rfl _ (.inr ⟨rfl, rfl⟩) ?_); try (simp only [st, List.set_cons_zero, List.set_cons_succ]))
        | (refine AS_op (OpR_beq Try.underlying4 rfl rfl _ (.inl ⟨rfl, rfl⟩) ?_); try (simp only [st, List.set_cons_zero, List.set_cons_succ]))
        | (refine AS_nil ?_; try simp only [AThen, ABlk, reduceIte, reduceCtorEq])
        | (refine hK _ _ ?_; try (first | clear hK K | clear IH hK K))
        | ((first | clear hK K | clear IH hK K); refine hK _ _ ?_; try (first | clear hK K | clear IH hK K))
        | ((first | clear hK K | clear IH hK K); (first | clear hK K | clear IH hK K); refine hK _ _ ?_; try (first | clear hK K | clear IH hK K))
        | ((first | clear hK K | clear IH hK K); (first | clear hK K | clear IH hK K); (first | clear hK K | clear IH hK K); refine hK _ _ ?_; try (first | clear hK K | clear IH hK K))
        | (refine AI_skip ?_; try simp only [AThen, ABlk, reduceIte, reduceCtorEq])
        | (refine AI_exit ?_; try simp only [AThen, ABlk, reduceIte, reduceCtorEq])
        | refine AI_cond_t rfl (by first | assumption | with_reducible rfl) ?_
        | refine AI_cond_f rfl (by first | assumption | with_reducible rfl) ?_
        | (refine AS_op (OpR_pick_t rfl (by first | assumption | with_reducible rfl) rfl ?_); try (simp only [st, List.set_cons_zero, List.set_cons_succ]))
        | (refine AS_op (OpR_pick_f rfl (by first | assumption | with_reducible rfl) rfl ?_); try (simp only [st, List.set_cons_zero, List.set_cons_succ]))
        | refine AS_gy rfl (by first | assumption | with_reducible rfl) ?_
        | (refine AS_gtn rfl (by first | assumption | with_reducible rfl) ?_)
        | (refine AS_gfn rfl (by first | assumption | with_reducible rfl) ?_)
        | refine AI_block (AI_loop ?_)
        | refine AI_block ?_
        | refine AI_ret ⟨_, rfl, ?_⟩
  · obtain ⟨y, hy, hmem, hdrop⟩ := drop_at h0 hc'
    rw [hdrop] at hidx
    refine AS_op (OpR_idx Try.underlying25 sz3 rfl rfl (hR.le hle) (fun _ => rfl) h0 hy fun b o hrow => ?_)
    try (simp only [st, List.set_cons_zero, List.set_cons_succ])
    repeat
      first
        | refine AI_seqk fun K hK => ?_
        | refine AI_reg ?_
        | (refine AS_op (OpR_move rfl ?_); try (simp only [st, List.set_cons_zero, List.set_cons_succ]))
        | (refine AS_op (OpR_assign rfl ?_); try (simp only [st, List.set_cons_zero, List.set_cons_succ]))
        | (refine AS_op (OpR_arith _ rfl rfl rfl (by omega) (by omega) ?_); try (simp only [st, List.set_cons_zero, List.set_cons_succ]))
        | (refine AS_op (OpR_bin rfl rfl rfl ?_); try (simp only [st, List.set_cons_zero, List.set_cons_succ]))
        | (refine AS_op (OpR_not rfl ?_); try (simp only [st, List.set_cons_zero, List.set_cons_succ]))
        | (refine AS_op (OpR_extract rfl rfl ?_); try (simp only [st, List.set_cons_zero, List.set_cons_succ]))
        | (refine AS_op (OpR_pick_b rfl rfl rfl ?_); try (simp only [st, List.set_cons_zero, List.set_cons_succ]))
        | (refine AS_op (OpR_makeFunc rfl ?_); try (simp only [st, List.set_cons_zero, List.set_cons_succ]))
        | (refine AS_op (OpR_beq Try.underlying4 rfl rfl _ (.inr ⟨rfl, rfl⟩) ?_); try (simp only [st, List.set_cons_zero, List.set_cons_succ]))
        | (refine AS_op (OpR_beq Try.underlying4 rfl rfl _ (.inl ⟨rfl, rfl⟩) ?_); try (simp only [st, List.set_cons_zero, List.set_cons_succ]))
        | (refine AS_nil ?_; try simp only [AThen, ABlk, reduceIte, reduceCtorEq])
        | (refine hK _ _ ?_; try (first | clear hK K | clear IH hK K))
        | ((first | clear hK K | clear IH hK K); refine hK _ _ ?_; try (first | clear hK K | clear IH hK K))
        | ((first | clear hK K | clear IH hK K); (first | clear hK K | clear IH hK K); refine hK _ _ ?_; try (first | clear hK K | clear IH hK K))
        | ((first | clear hK K | clear IH hK K); (first | clear hK K | clear IH hK K); (first | clear hK K | clear IH hK K); refine hK _ _ ?_; try (first | clear hK K | clear IH hK K))
        | (refine AI_skip ?_; try simp only [AThen, ABlk, reduceIte, reduceCtorEq])
        | (refine AI_exit ?_; try simp only [AThen, ABlk, reduceIte, reduceCtorEq])
        | refine AI_cond_t rfl (by first | assumption | with_reducible rfl) ?_
        | refine AI_cond_f rfl (by first | assumption | with_reducible rfl) ?_
        | (refine AS_op (OpR_pick_t rfl (by first | assumption | with_reducible rfl) rfl ?_); try (simp only [st, List.set_cons_zero, List.set_cons_succ]))
        | (refine AS_op (OpR_pick_f rfl (by first | assumption | with_reducible rfl) rfl ?_); try (simp only [st, List.set_cons_zero, List.set_cons_succ]))
        | refine AS_gy rfl (by first | assumption | with_reducible rfl) ?_
        | (refine AS_gtn rfl (by first | assumption | with_reducible rfl) ?_)
        | (refine AS_gfn rfl (by first | assumption | with_reducible rfl) ?_)
        | refine AI_block (AI_loop ?_)
        | refine AI_block ?_
        | refine AI_ret ⟨_, rfl, ?_⟩
    refine AS_op (OpR_load rfl (loadA_1 ag3 (cell_row hrow)) ?_)
    try (simp only [st, List.set_cons_zero, List.set_cons_succ])
    repeat
      first
        | refine AI_seqk fun K hK => ?_
        | refine AI_reg ?_
        | (refine AS_op (OpR_move rfl ?_); try (simp only [st, List.set_cons_zero, List.set_cons_succ]))
        | (refine AS_op (OpR_assign rfl ?_); try (simp only [st, List.set_cons_zero, List.set_cons_succ]))
        | (refine AS_op (OpR_arith _ rfl rfl rfl (by omega) (by omega) ?_); try (simp only [st, List.set_cons_zero, List.set_cons_succ]))
        | (refine AS_op (OpR_bin rfl rfl rfl ?_); try (simp only [st, List.set_cons_zero, List.set_cons_succ]))
        | (refine AS_op (OpR_not rfl ?_); try (simp only [st, List.set_cons_zero, List.set_cons_succ]))
        | (refine AS_op (OpR_extract rfl rfl ?_); try (simp only [st, List.set_cons_zero, List.set_cons_succ]))
        | (refine AS_op (OpR_pick_b rfl rfl rfl ?_); try (simp only [st, List.set_cons_zero, List.set_cons_succ]))
        | (refine AS_op (OpR_makeFunc rfl ?_); try (simp only [st, List.set_cons_zero, List.set_cons_succ]))
        | (refine AS_op (OpR_beq Try.underlying4 rfl rfl _ (.inr ⟨rfl, rfl⟩) ?_); try (simp only [st, List.set_cons_zero, List.set_cons_succ]))
        | (refine AS_op (OpR_beq Try.underlying4 rfl rfl _ (.inl ⟨rfl, rfl⟩) ?_); try (simp only [st, List.set_cons_zero, List.set_cons_succ]))
        | (refine AS_nil ?_; try simp only [AThen, ABlk, reduceIte, reduceCtorEq])
        | (refine hK _ _ ?_; try (first | clear hK K | clear IH hK K))
        | ((first | clear hK K | clear IH hK K); refine hK _ _ ?_; try (first | clear hK K | clear IH hK K))
        | ((first | clear hK K | clear IH hK K); (first | clear hK K | clear IH hK K); refine hK _ _ ?_; try (first | clear hK K | clear IH hK K))
        | ((first | clear hK K | clear IH hK K); (first | clear hK K | clear IH hK K); (first | clear hK K | clear IH hK K); refine hK _ _ ?_; try (first | clear hK K | clear IH hK K))
        | (refine AI_skip ?_; try simp only [AThen, ABlk, reduceIte, reduceCtorEq])
        | (refine AI_exit ?_; try simp only [AThen, ABlk, reduceIte, reduceCtorEq])
        | refine AI_cond_t rfl (by first | assumption | with_reducible rfl) ?_
        | refine AI_cond_f rfl (by first | assumption | with_reducible rfl) ?_
        | (refine AS_op (OpR_pick_t rfl (by first | assumption | with_reducible rfl) rfl ?_); try (simp only [st, List.set_cons_zero, List.set_cons_succ]))
        | (refine AS_op (OpR_pick_f rfl (by first | assumption | with_reducible rfl) rfl ?_); try (simp only [st, List.set_cons_zero, List.set_cons_succ]))
        | refine AS_gy rfl (by first | assumption | with_reducible rfl) ?_
        | (refine AS_gtn rfl (by first | assumption | with_reducible rfl) ?_)
        | (refine AS_gfn rfl (by first | assumption | with_reducible rfl) ?_)
        | refine AI_block (AI_loop ?_)
        | refine AI_block ?_
        | refine AI_ret ⟨_, rfl, ?_⟩
    refine AS_op (OpR_call rfl rfl (hp y hmem _ hle) ?_)
    rintro _ h2 wf1 ⟨rfl, hle2⟩
    try (simp only [st, List.set_cons_zero, List.set_cons_succ])
    repeat
      first
        | refine AI_seqk fun K hK => ?_
        | refine AI_reg ?_
        | (refine AS_op (OpR_move rfl ?_); try (simp only [st, List.set_cons_zero, List.set_cons_succ]))
        | (refine AS_op (OpR_assign rfl ?_); try (simp only [st, List.set_cons_zero, List.set_cons_succ]))
        | (refine AS_op (OpR_arith _ rfl rfl rfl (by omega) (by omega) ?_); try (simp only [st, List.set_cons_zero, List.set_cons_succ]))
        | (refine AS_op (OpR_bin rfl rfl rfl ?_); try (simp only [st, List.set_cons_zero, List.set_cons_succ]))
        | (refine AS_op (OpR_not rfl ?_); try (simp only [st, List.set_cons_zero, List.set_cons_succ]))
        | (refine AS_op (OpR_extract rfl rfl ?_); try (simp only [st, List.set_cons_zero, List.set_cons_succ]))
        | (refine AS_op (OpR_pick_b rfl rfl rfl ?_); try (simp only [st, List.set_cons_zero, List.set_cons_succ]))
        | (refine AS_op (OpR_makeFunc rfl ?_); try (simp only [st, List.set_cons_zero, List.set_cons_succ]))
        | (refine AS_op (OpR_beq Try.underlying4 rfl rfl _ (.inr ⟨rfl, rfl⟩) ?_); try (simp only [st, List.set_cons_zero, List.set_cons_succ]))
        | (refine AS_op (OpR_beq Try.underlying4 rfl rfl _ (.inl ⟨rfl, rfl⟩) ?_); try (simp only [st, List.set_cons_zero, List.set_cons_succ]))
        | (refine AS_nil ?_; try simp only [AThen, ABlk, reduceIte, reduceCtorEq])
        | (refine hK _ _ ?_; try (first | clear hK K | clear IH hK K))
        | ((first | clear hK K | clear IH hK K); refine hK _ _ ?_; try (first | clear hK K | clear IH hK K))
        | ((first | clear hK K | clear IH hK K); (first | clear hK K | clear IH hK K); refine hK _ _ ?_; try (first | clear hK K | clear IH hK K))
        | ((first | clear hK K | clear IH hK K); (first | clear hK K | clear IH hK K); (first | clear hK K | clear IH hK K); refine hK _ _ ?_; try (first | clear hK K | clear IH hK K))
        | (refine AI_skip ?_; try simp only [AThen, ABlk, reduceIte, reduceCtorEq])
        | (refine AI_exit ?_; try simp only [AThen, ABlk, reduceIte, reduceCtorEq])
        | refine AI_cond_t rfl (by first | assumption | with_reducible rfl) ?_
        | refine AI_cond_f rfl (by first | assumption | with_reducible rfl) ?_
        | (refine AS_op (OpR_pick_t rfl (by first | assumption | with_reducible rfl) rfl ?_); try (simp only [st, List.set_cons_zero, List.set_cons_succ]))
        | (refine AS_op (OpR_pick_f rfl (by first | assumption | with_reducible rfl) rfl ?_); try (simp only [st, List.set_cons_zero, List.set_cons_succ]))
        | refine AS_gy rfl (by first | assumption | with_reducible rfl) ?_
        | (refine AS_gtn rfl (by first | assumption | with_reducible rfl) ?_)
        | (refine AS_gfn rfl (by first | assumption | with_reducible rfl) ?_)
        | refine AI_block (AI_loop ?_)
        | refine AI_block ?_
        | refine AI_ret ⟨_, rfl, ?_⟩
    (first | refine AS_gt rfl ?_ ?_ | refine AS_gf rfl ?_ ?_ | refine AI_cond rfl ?_ ?_) <;> intro hc <;> have hc' := hc <;> (try simp only [decide_eq_true_eq, decide_eq_false_iff_not, Bool.not_eq_true', Bool.not_eq_false', Bool.not_eq_true, Bool.not_eq_false, beq_iff_eq, bne_iff_ne, beq_eq_false_iff_ne, bne_eq_false_iff_eq, Int.not_lt, Int.not_le, ge_iff_le, gt_iff_lt, not_and, ne_eq, Decidable.not_not] at hc')
    all_goals
      repeat
        first
          | refine AI_seqk fun K hK => ?_
          | refine AI_reg ?_
          | (refine AS_op (OpR_move rfl ?_); try (simp only [st, List.set_cons_zero, List.set_cons_succ]))
          | (refine AS_op (OpR_assign rfl ?_); try (simp only [st, List.set_cons_zero, List.set_cons_succ]))
          | (refine AS_op (OpR_arith _ rfl rfl rfl (by omega) (by omega) ?_); try (simp only [st, List.set_cons_zero, List.set_cons_succ]))
          | (refine AS_op (OpR_bin rfl rfl rfl ?_); try (simp only [st, List.set_cons_zero, List.set_cons_succ]))
          | (refine AS_op (OpR_not rfl ?_); try (simp only [st, List.set_cons_zero, List.set_cons_succ]))
          | (refine AS_op (OpR_extract rfl rfl ?_); try (simp only [st, List.set_cons_zero, List.set_cons_succ]))
          | (refine AS_op (OpR_pick_b rfl rfl rfl ?_); try (simp only [st, List.set_cons_zero, List.set_cons_succ]))
          | (refine AS_op (OpR_makeFunc rfl ?_); try (simp only [st, List.set_cons_zero, List.set_cons_succ]))
          | (refine AS_op (OpR_beq Try.underlying4 rfl rfl _ (.inr ⟨rfl, rfl⟩) ?_); try (simp only [st, List.set_cons_zero, List.set_cons_succ]))
          | (refine AS_op (OpR_beq Try.underlying4 rfl rfl _ (.inl ⟨rfl, rfl⟩) ?_); try (simp only [st, List.set_cons_zero, List.set_cons_succ]))
          | (refine AS_nil ?_; try simp only [AThen, ABlk, reduceIte, reduceCtorEq])
          | (refine hK _ _ ?_; try (first | clear hK K | clear IH hK K))
          | ((first | clear hK K | clear IH hK K); refine hK _ _ ?_; try (first | clear hK K | clear IH hK K))
          | ((first | clear hK K | clear IH hK K); (first | clear hK K | clear IH hK K); refine hK _ _ ?_; try (first | clear hK K | clear IH hK K))
          | ((first | clear hK K | clear IH hK K); (first | clear hK K | clear IH hK K); (first | clear hK K | clear IH hK K); refine hK _ _ ?_; try (first | clear hK K | clear IH hK K))
          | (refine AI_skip ?_; try simp only [AThen, ABlk, reduceIte, reduceCtorEq])
          | (refine AI_exit ?_; try simp only [AThen, ABlk, reduceIte, reduceCtorEq])
          | refine AI_cond_t rfl (by first | assumption | with_reducible rfl) ?_
          | refine AI_cond_f rfl (by first | assumption | with_reducible rfl) ?_
          | (refine AS_op (OpR_pick_t rfl (by first | assumption | with_reducible rfl) rfl ?_); try (simp only [st, List.set_cons_zero, List.set_cons_succ]))
          | (refine AS_op (OpR_pick_f rfl (by first | assumption | with_reducible rfl) rfl ?_); try (simp only [st, List.set_cons_zero, List.set_cons_succ]))
          | refine AS_gy rfl (by first | assumption | with_reducible rfl) ?_
          | (refine AS_gtn rfl (by first | assumption | with_reducible rfl) ?_)
          | (refine AS_gfn rfl (by first | assumption | with_reducible rfl) ?_)
          | refine AI_block (AI_loop ?_)
          | refine AI_block ?_
          | refine AI_ret ⟨_, rfl, ?_⟩
    · refine ⟨?_, hle.trans hle2⟩
      rw [hidx]
      simp [idxFrom, hc, oneA]
    · refine IH (n - 1) _ _ (by omega) ⟨i + 1, _, _, _, _, _, _, _, _, _, _, _, rfl, by omega, by omega, hle.trans hle2, ?_⟩
      rw [hidx, toNat_succ h0]
      simp [idxFrom, hc]
  · refine ⟨?_, hle⟩
    rw [hidx, List.drop_eq_nil_of_le (by omega)]
    rfl

theorem ContainsFunc_int_ac (l : List Int) (v : AV) (g : FuncId) (caps : List AV) (p : Int → Bool) (h : AH) (hR : RdG 1 enI h v l) (hl : l.length ≤ 4611686018427387904)
    (hp : Pred Try.prog g caps (.i .i64) h p l) :
    AC Try.prog 46 [v, .f g caps] h (fun r h' => r = .b (l.any p) ∧ h.le h') := by
  refine e46 _ _ fun wf => ?_
  unfold c46
  repeat
    first
      | refine AI_seqk fun K hK => ?_
      | refine AI_reg ?_
      | (refine AS_op (OpR_move rfl ?_); try (simp only [st, List.set_cons_zero, List.set_cons_succ]))
      | (refine AS_op (OpR_assign rfl ?_); try (simp only [st, List.set_cons_zero, List.set_cons_succ]))
      | (refine AS_op (OpR_arith _ rfl rfl rfl (by omega) (by omega) ?_); try (simp only [st, List.set_cons_zero, List.set_cons_succ]))
      | (refine AS_op (OpR_bin rfl rfl rfl ?_); try (simp only [st, List.set_cons_zero, List.set_cons_succ]))
      | (refine AS_op (OpR_not rfl ?_); try (simp only [st, List.set_cons_zero, List.set_cons_succ]))
      | (refine AS_op (OpR_extract rfl rfl ?_); try (simp only [st, List.set_cons_zero, List.set_cons_succ]))
      | (refine AS_op (OpR_pick_b rfl rfl rfl ?_); try (simp only [st, List.set_cons_zero, List.set_cons_succ]))
      | (refine AS_op (OpR_makeFunc rfl ?_); try (simp only [st, List.set_cons_zero, List.set_cons_succ]))
      | (refine AS_op (OpR_beq Try.underlying4 rfl rfl _ (.inr ⟨rfl, rfl⟩) ?_); try (simp only [st, List.set_cons_zero, List.set_cons_succ]))
      | (refine AS_op (OpR_beq Try.underlying4 rfl rfl _ (.inl ⟨rfl, rfl⟩) ?_); try (simp only [st, List.set_cons_zero, List.set_cons_succ]))
      | (refine AS_nil ?_; try simp only [AThen, ABlk, reduceIte, reduceCtorEq])
      | (refine hK _ _ ?_; try (first | clear hK K | clear IH hK K))
      | ((first | clear hK K | clear IH hK K); refine hK _ _ ?_; try (first | clear hK K | clear IH hK K))
      | ((first | clear hK K | clear IH hK K); (first | clear hK K | clear IH hK K); refine hK _ _ ?_; try (first | clear hK K | clear IH hK K))
      | ((first | clear hK K | clear IH hK K); (first | clear hK K | clear IH hK K); (first | clear hK K | clear IH hK K); refine hK _ _ ?_; try (first | clear hK K | clear IH hK K))
      | (refine AI_skip ?_; try simp only [AThen, ABlk, reduceIte, reduceCtorEq])
      | (refine AI_exit ?_; try simp only [AThen, ABlk, reduceIte, reduceCtorEq])
      | refine AI_cond_t rfl (by first | assumption | with_reducible rfl) ?_
      | refine AI_cond_f rfl (by first | assumption | with_reducible rfl) ?_
      | (refine AS_op (OpR_pick_t rfl (by first | assumption | with_reducible rfl) rfl ?_); try (simp only [st, List.set_cons_zero, List.set_cons_succ]))
      | (refine AS_op (OpR_pick_f rfl (by first | assumption | with_reducible rfl) rfl ?_); try (simp only [st, List.set_cons_zero, List.set_cons_succ]))
      | refine AS_gy rfl (by first | assumption | with_reducible rfl) ?_
      | (refine AS_gtn rfl (by first | assumption | with_reducible rfl) ?_)
      | (refine AS_gfn rfl (by first | assumption | with_reducible rfl) ?_)
      | refine AI_block (AI_loop ?_)
      | refine AI_block ?_
      | refine AI_ret ⟨_, rfl, ?_⟩
  refine AS_op (OpR_call rfl rfl (IndexFunc_int_ac l v g caps p _ hR hl hp) ?_)
  rintro _ h2 wf1 ⟨rfl, hle2⟩
  try (simp only [st, List.set_cons_zero, List.set_cons_succ])
  repeat
    first
      | refine AI_seqk fun K hK => ?_
      | refine AI_reg ?_
      | (refine AS_op (OpR_move rfl ?_); try (simp only [st, List.set_cons_zero, List.set_cons_succ]))
      | (refine AS_op (OpR_assign rfl ?_); try (simp only [st, List.set_cons_zero, List.set_cons_succ]))
      | (refine AS_op (OpR_arith _ rfl rfl rfl (by omega) (by omega) ?_); try (simp only [st, List.set_cons_zero, List.set_cons_succ]))
      | (refine AS_op (OpR_bin rfl rfl rfl ?_); try (simp only [st, List.set_cons_zero, List.set_cons_succ]))
      | (refine AS_op (OpR_not rfl ?_); try (simp only [st, List.set_cons_zero, List.set_cons_succ]))
      | (refine AS_op (OpR_extract rfl rfl ?_); try (simp only [st, List.set_cons_zero, List.set_cons_succ]))
      | (refine AS_op (OpR_pick_b rfl rfl rfl ?_); try (simp only [st, List.set_cons_zero, List.set_cons_succ]))
      | (refine AS_op (OpR_makeFunc rfl ?_); try (simp only [st, List.set_cons_zero, List.set_cons_succ]))
      | (refine AS_op (OpR_beq Try.underlying4 rfl rfl _ (.inr ⟨rfl, rfl⟩) ?_); try (simp only [st, List.set_cons_zero, List.set_cons_succ]))
      | (refine AS_op (OpR_beq Try.underlying4 rfl rfl _ (.inl ⟨rfl, rfl⟩) ?_); try (simp only [st, List.set_cons_zero, List.set_cons_succ]))
      | (refine AS_nil ?_; try simp only [AThen, ABlk, reduceIte, reduceCtorEq])
      | (refine hK _ _ ?_; try (first | clear hK K | clear IH hK K))
      | ((first | clear hK K | clear IH hK K); refine hK _ _ ?_; try (first | clear hK K | clear IH hK K))
      | ((first | clear hK K | clear IH hK K); (first | clear hK K | clear IH hK K); refine hK _ _ ?_; try (first | clear hK K | clear IH hK K))
      | ((first | clear hK K | clear IH hK K); (first | clear hK K | clear IH hK K); (first | clear hK K | clear IH hK K); refine hK _ _ ?_; try (first | clear hK K | clear IH hK K))
      | (refine AI_skip ?_; try simp only [AThen, ABlk, reduceIte, reduceCtorEq])
      | (refine AI_exit ?_; try simp only [AThen, ABlk, reduceIte, reduceCtorEq])
      | refine AI_cond_t rfl (by first | assumption | with_reducible rfl) ?_
      | refine AI_cond_f rfl (by first | assumption | with_reducible rfl) ?_
      | (refine AS_op (OpR_pick_t rfl (by first | assumption | with_reducible rfl) rfl ?_); try (simp only [st, List.set_cons_zero, List.set_cons_succ]))
      | (refine AS_op (OpR_pick_f rfl (by first | assumption | with_reducible rfl) rfl ?_); try (simp only [st, List.set_cons_zero, List.set_cons_succ]))
      | refine AS_gy rfl (by first | assumption | with_reducible rfl) ?_
      | (refine AS_gtn rfl (by first | assumption | with_reducible rfl) ?_)
      | (refine AS_gfn rfl (by first | assumption | with_reducible rfl) ?_)
      | refine AI_block (AI_loop ?_)
      | refine AI_block ?_
      | refine AI_ret ⟨_, rfl, ?_⟩
  refine ⟨?_, hle2⟩
  simp only [oneA, ← idxFrom_any p l 0 (by omega), ge_iff_le]

theorem new_ctx {h : AH} (wf : h.wf) (k : Nat) (v : AV) : ∃ h1 b, h1 = h.new k [v] ∧ b = h.cs.length ∧ h.le h1 ∧ h1.cell b 0 = some v ∧ h1.wf :=
  ⟨_, _, rfl, rfl, AH.le_new h k [v], new_cell h k v, wf.new k [v]⟩

theorem modulusOk_ac (m : Int) (h : AH) : AC Try.prog 76 [.i .i64 m] h (fun v h' => v = .b (decide (2 ≤ m ∧ m ≤ 10000)) ∧ h = h') := by
  refine e76 _ fun wf => ?_
  unfold c76
  repeat
    first
      | refine AI_seqk fun K hK => ?_
      | refine AI_reg ?_
      | (refine AS_op (OpR_move rfl ?_); try (simp only [st, List.set_cons_zero, List.set_cons_succ]))
      | (refine AS_op (OpR_assign rfl ?_); try (simp only [st, List.set_cons_zero, List.set_cons_succ]))
      | (refine AS_op (OpR_arith _ rfl rfl rfl (by omega) (by omega) ?_); try (simp only [st, List.set_cons_zero, List.set_cons_succ]))
      | (refine AS_op (OpR_bin rfl rfl rfl ?_); try (simp only [st, List.set_cons_zero, List.set_cons_succ]))
      | (refine AS_op (OpR_not rfl ?_); try (simp only [st, List.set_cons_zero, List.set_cons_succ]))
      | (refine AS_op (OpR_extract rfl rfl ?_); try (simp only [st, List.set_cons_zero, List.set_cons_succ]))
      | (refine AS_op (OpR_pick_b rfl rfl rfl ?_); try (simp only [st, List.set_cons_zero, List.set_cons_succ]))
      | (refine AS_op (OpR_makeFunc rfl ?_); try (simp only [st, List.set_cons_zero, List.set_cons_succ]))
      | (refine AS_op (OpR_beq Try.underlying4 rfl rfl _ (.inr ⟨rfl, rfl⟩) ?_); try (simp only [st, List.set_cons_zero, List.set_cons_succ]))
      | (refine AS_op (OpR_beq Try.underlying4 rfl rfl _ (.inl ⟨rfl, rfl⟩) ?_); try (simp only [st, List.set_cons_zero, List.set_cons_succ]))
      | (refine AS_nil ?_; try simp only [AThen, ABlk, reduceIte, reduceCtorEq])
      | (refine hK _ _ ?_; try (first | clear hK K | clear IH hK K))
      | ((first | clear hK K | clear IH hK K); refine hK _ _ ?_; try (first | clear hK K | clear IH hK K))
      | ((first | clear hK K | clear IH hK K); (first | clear hK K | clear IH hK K); refine hK _ _ ?_; try (first | clear hK K | clear IH hK K))
      | ((first | clear hK K | clear IH hK K); (first | clear hK K | clear IH hK K); (first | clear hK K | clear IH hK K); refine hK _ _ ?_; try (first | clear hK K | clear IH hK K))
      | (refine AI_skip ?_; try simp only [AThen, ABlk, reduceIte, reduceCtorEq])
      | (refine AI_exit ?_; try simp only [AThen, ABlk, reduceIte, reduceCtorEq])
      | refine AI_cond_t rfl (by first | assumption | with_reducible rfl) ?_
      | refine AI_cond_f rfl (by first | assumption | with_reducible rfl) ?_
      | (refine AS_op (OpR_pick_t rfl (by first | assumption | with_reducible rfl) rfl ?_); try (simp only [st, List.set_cons_zero, List.set_cons_succ]))
      | (refine AS_op (OpR_pick_f rfl (by first | assumption | with_reducible rfl) rfl ?_); try (simp only [st, List.set_cons_zero, List.set_cons_succ]))
      | refine AS_gy rfl (by first | assumption | with_reducible rfl) ?_
      | (refine AS_gtn rfl (by first | assumption | with_reducible rfl) ?_)
      | (refine AS_gfn rfl (by first | assumption | with_reducible rfl) ?_)
      | refine AI_block (AI_loop ?_)
      | refine AI_block ?_
      | refine AI_ret ⟨_, rfl, ?_⟩
  refine AS_op (OpR_call rfl rfl (in_ac _ _ _ _) ?_)
  rintro _ _ wf1 ⟨rfl, rfl⟩
  try (simp only [st, List.set_cons_zero, List.set_cons_succ])
  repeat
    first
      | refine AI_seqk fun K hK => ?_
      | refine AI_reg ?_
      | (refine AS_op (OpR_move rfl ?_); try (simp only [st, List.set_cons_zero, List.set_cons_succ]))
      | (refine AS_op (OpR_assign rfl ?_); try (simp only [st, List.set_cons_zero, List.set_cons_succ]))
      | (refine AS_op (OpR_arith _ rfl rfl rfl (by omega) (by omega) ?_); try (simp only [st, List.set_cons_zero, List.set_cons_succ]))
      | (refine AS_op (OpR_bin rfl rfl rfl ?_); try (simp only [st, List.set_cons_zero, List.set_cons_succ]))
      | (refine AS_op (OpR_not rfl ?_); try (simp only [st, List.set_cons_zero, List.set_cons_succ]))
      | (refine AS_op (OpR_extract rfl rfl ?_); try (simp only [st, List.set_cons_zero, List.set_cons_succ]))
      | (refine AS_op (OpR_pick_b rfl rfl rfl ?_); try (simp only [st, List.set_cons_zero, List.set_cons_succ]))
      | (refine AS_op (OpR_makeFunc rfl ?_); try (simp only [st, List.set_cons_zero, List.set_cons_succ]))
      | (refine AS_op (OpR_beq Try.underlying4 rfl rfl _ (.inr ⟨rfl, rfl⟩) ?_); try (simp only [st, List.set_cons_zero, List.set_cons_succ]))
      | (refine AS_op (OpR_beq Try.underlying4 rfl rfl _ (.inl ⟨rfl, rfl⟩) ?_); try (simp only [st, List.set_cons_zero, List.set_cons_succ]))
      | (refine AS_nil ?_; try simp only [AThen, ABlk, reduceIte, reduceCtorEq])
      | (refine hK _ _ ?_; try (first | clear hK K | clear IH hK K))
      | ((first | clear hK K | clear IH hK K); refine hK _ _ ?_; try (first | clear hK K | clear IH hK K))
      | ((first | clear hK K | clear IH hK K); (first | clear hK K | clear IH hK K); refine hK _ _ ?_; try (first | clear hK K | clear IH hK K))
      | ((first | clear hK K | clear IH hK K); (first | clear hK K | clear IH hK K); (first | clear hK K | clear IH hK K); refine hK _ _ ?_; try (first | clear hK K | clear IH hK K))
      | (refine AI_skip ?_; try simp only [AThen, ABlk, reduceIte, reduceCtorEq])
      | (refine AI_exit ?_; try simp only [AThen, ABlk, reduceIte, reduceCtorEq])
      | refine AI_cond_t rfl (by first | assumption | with_reducible rfl) ?_
      | refine AI_cond_f rfl (by first | assumption | with_reducible rfl) ?_
      | (refine AS_op (OpR_pick_t rfl (by first | assumption | with_reducible rfl) rfl ?_); try (simp only [st, List.set_cons_zero, List.set_cons_succ]))
      | (refine AS_op (OpR_pick_f rfl (by first | assumption | with_reducible rfl) rfl ?_); try (simp only [st, List.set_cons_zero, List.set_cons_succ]))
      | refine AS_gy rfl (by first | assumption | with_reducible rfl) ?_
      | (refine AS_gtn rfl (by first | assumption | with_reducible rfl) ?_)
      | (refine AS_gfn rfl (by first | assumption | with_reducible rfl) ?_)
      | refine AI_block (AI_loop ?_)
      | refine AI_block ?_
      | refine AI_ret ⟨_, rfl, ?_⟩
  exact ⟨rfl, rfl⟩

theorem moModulus_ac (m : Int) (h : AH) : AC Try.prog 41 [.i .i64 m] h (fun v h' => v = .b (decide (2 ≤ m ∧ m ≤ 10000)) ∧ h = h') := by
  refine e41 _ fun wf => ?_
  unfold c41
  repeat
    first
      | refine AI_seqk fun K hK => ?_
      | refine AI_reg ?_
      | (refine AS_op (OpR_move rfl ?_); try (simp only [st, List.set_cons_zero, List.set_cons_succ]))
      | (refine AS_op (OpR_assign rfl ?_); try (simp only [st, List.set_cons_zero, List.set_cons_succ]))
      | (refine AS_op (OpR_arith _ rfl rfl rfl (by omega) (by omega) ?_); try (simp only [st, List.set_cons_zero, List.set_cons_succ]))
      | (refine AS_op (OpR_bin rfl rfl rfl ?_); try (simp only [st, List.set_cons_zero, List.set_cons_succ]))
      | (refine AS_op (OpR_not rfl ?_); try (simp only [st, List.set_cons_zero, List.set_cons_succ]))
      | (refine AS_op (OpR_extract rfl rfl ?_); try (simp only [st, List.set_cons_zero, List.set_cons_succ]))
      | (refine AS_op (OpR_pick_b rfl rfl rfl ?_); try (simp only [st, List.set_cons_zero, List.set_cons_succ]))
      | (refine AS_op (OpR_makeFunc rfl ?_); try (simp only [st, List.set_cons_zero, List.set_cons_succ]))
      | (refine AS_op (OpR_beq Try.underlying4 rfl rfl _ (.inr ⟨rfl, rfl⟩) ?_); try (simp only [st, List.set_cons_zero, List.set_cons_succ]))
      | (refine AS_op (OpR_beq Try.underlying4 rfl rfl _ (.inl ⟨rfl, rfl⟩) ?_); try (simp only [st, List.set_cons_zero, List.set_cons_succ]))
      | (refine AS_nil ?_; try simp only [AThen, ABlk, reduceIte, reduceCtorEq])
      | (refine hK _ _ ?_; try (first | clear hK K | clear IH hK K))
      | ((first | clear hK K | clear IH hK K); refine hK _ _ ?_; try (first | clear hK K | clear IH hK K))
      | ((first | clear hK K | clear IH hK K); (first | clear hK K | clear IH hK K); refine hK _ _ ?_; try (first | clear hK K | clear IH hK K))
      | ((first | clear hK K | clear IH hK K); (first | clear hK K | clear IH hK K); (first | clear hK K | clear IH hK K); refine hK _ _ ?_; try (first | clear hK K | clear IH hK K))
      | (refine AI_skip ?_; try simp only [AThen, ABlk, reduceIte, reduceCtorEq])
      | (refine AI_exit ?_; try simp only [AThen, ABlk, reduceIte, reduceCtorEq])
      | refine AI_cond_t rfl (by first | assumption | with_reducible rfl) ?_
      | refine AI_cond_f rfl (by first | assumption | with_reducible rfl) ?_
      | (refine AS_op (OpR_pick_t rfl (by first | assumption | with_reducible rfl) rfl ?_); try (simp only [st, List.set_cons_zero, List.set_cons_succ]))
      | (refine AS_op (OpR_pick_f rfl (by first | assumption | with_reducible rfl) rfl ?_); try (simp only [st, List.set_cons_zero, List.set_cons_succ]))
      | refine AS_gy rfl (by first | assumption | with_reducible rfl) ?_
      | (refine AS_gtn rfl (by first | assumption | with_reducible rfl) ?_)
      | (refine AS_gfn rfl (by first | assumption | with_reducible rfl) ?_)
      | refine AI_block (AI_loop ?_)
      | refine AI_block ?_
      | refine AI_ret ⟨_, rfl, ?_⟩
  refine AS_op (OpR_call rfl rfl (l1In_ac _ _ _ _) ?_)
  rintro _ _ wf1 ⟨rfl, rfl⟩
  try (simp only [st, List.set_cons_zero, List.set_cons_succ])
  repeat
    first
      | refine AI_seqk fun K hK => ?_
      | refine AI_reg ?_
      | (refine AS_op (OpR_move rfl ?_); try (simp only [st, List.set_cons_zero, List.set_cons_succ]))
      | (refine AS_op (OpR_assign rfl ?_); try (simp only [st, List.set_cons_zero, List.set_cons_succ]))
      | (refine AS_op (OpR_arith _ rfl rfl rfl (by omega) (by omega) ?_); try (simp only [st, List.set_cons_zero, List.set_cons_succ]))
      | (refine AS_op (OpR_bin rfl rfl rfl ?_); try (simp only [st, List.set_cons_zero, List.set_cons_succ]))
      | (refine AS_op (OpR_not rfl ?_); try (simp only [st, List.set_cons_zero, List.set_cons_succ]))
      | (refine AS_op (OpR_extract rfl rfl ?_); try (simp only [st, List.set_cons_zero, List.set_cons_succ]))
      | (refine AS_op (OpR_pick_b rfl rfl rfl ?_); try (simp only [st, List.set_cons_zero, List.set_cons_succ]))
      | (refine AS_op (OpR_makeFunc rfl ?_); try (simp only [st, List.set_cons_zero, List.set_cons_succ]))
      | (refine AS_op (OpR_beq Try.underlying4 rfl rfl _ (.inr ⟨rfl, rfl⟩) ?_); try (simp only [st, List.set_cons_zero, List.set_cons_succ]))
      | (refine AS_op (OpR_beq Try.underlying4 rfl rfl _ (.inl ⟨rfl, rfl⟩) ?_); try (simp only [st, List.set_cons_zero, List.set_cons_succ]))
      | (refine AS_nil ?_; try simp only [AThen, ABlk, reduceIte, reduceCtorEq])
      | (refine hK _ _ ?_; try (first | clear hK K | clear IH hK K))
      | ((first | clear hK K | clear IH hK K); refine hK _ _ ?_; try (first | clear hK K | clear IH hK K))
      | ((first | clear hK K | clear IH hK K); (first | clear hK K | clear IH hK K); refine hK _ _ ?_; try (first | clear hK K | clear IH hK K))
      | ((first | clear hK K | clear IH hK K); (first | clear hK K | clear IH hK K); (first | clear hK K | clear IH hK K); refine hK _ _ ?_; try (first | clear hK K | clear IH hK K))
      | (refine AI_skip ?_; try simp only [AThen, ABlk, reduceIte, reduceCtorEq])
      | (refine AI_exit ?_; try simp only [AThen, ABlk, reduceIte, reduceCtorEq])
      | refine AI_cond_t rfl (by first | assumption | with_reducible rfl) ?_
      | refine AI_cond_f rfl (by first | assumption | with_reducible rfl) ?_
      | (refine AS_op (OpR_pick_t rfl (by first | assumption | with_reducible rfl) rfl ?_); try (simp only [st, List.set_cons_zero, List.set_cons_succ]))
      | (refine AS_op (OpR_pick_f rfl (by first | assumption | with_reducible rfl) rfl ?_); try (simp only [st, List.set_cons_zero, List.set_cons_succ]))
      | refine AS_gy rfl (by first | assumption | with_reducible rfl) ?_
      | (refine AS_gtn rfl (by first | assumption | with_reducible rfl) ?_)
      | (refine AS_gfn rfl (by first | assumption | with_reducible rfl) ?_)
      | refine AI_block (AI_loop ?_)
      | refine AI_block ?_
      | refine AI_ret ⟨_, rfl, ?_⟩
  exact ⟨rfl, rfl⟩

theorem residuesOk_1_ac (x m : Int) (b : Nat) (h : AH) (hm : h.cell b 0 = some (.i .i64 m)) (h1 : 0 ≤ m) (h2 : m ≤ 10000) :
    AC Try.prog 77 [.i .i64 x, .p b 0] h (fun v h' => v = .b (!decide (0 ≤ x ∧ x ≤ m - 1)) ∧ h = h') := by
  refine e77 _ _ fun wf => ?_
  unfold c77
  repeat
    first
      | refine AI_seqk fun K hK => ?_
      | refine AI_reg ?_
      | (refine AS_op (OpR_move rfl ?_); try (simp only [st, List.set_cons_zero, List.set_cons_succ]))
      | (refine AS_op (OpR_assign rfl ?_); try (simp only [st, List.set_cons_zero, List.set_cons_succ]))
      | (refine AS_op (OpR_arith _ rfl rfl rfl (by omega) (by omega) ?_); try (simp only [st, List.set_cons_zero, List.set_cons_succ]))
      | (refine AS_op (OpR_bin rfl rfl rfl ?_); try (simp only [st, List.set_cons_zero, List.set_cons_succ]))
      | (refine AS_op (OpR_not rfl ?_); try (simp only [st, List.set_cons_zero, List.set_cons_succ]))
      | (refine AS_op (OpR_extract rfl rfl ?_); try (simp only [st, List.set_cons_zero, List.set_cons_succ]))
      | (refine AS_op (OpR_pick_b rfl rfl rfl ?_); try (simp only [st, List.set_cons_zero, List.set_cons_succ]))
      | (refine AS_op (OpR_makeFunc rfl ?_); try (simp only [st, List.set_cons_zero, List.set_cons_succ]))
      | (refine AS_op (OpR_beq Try.underlying4 rfl rfl _ (.inr ⟨rfl, rfl⟩) ?_); try (simp only [st, List.set_cons_zero, List.set_cons_succ]))
      | (refine AS_op (OpR_beq Try.underlying4 rfl rfl _ (.inl ⟨rfl, rfl⟩) ?_); try (simp only [st, List.set_cons_zero, List.set_cons_succ]))
      | (refine AS_nil ?_; try simp only [AThen, ABlk, reduceIte, reduceCtorEq])
      | (refine hK _ _ ?_; try (first | clear hK K | clear IH hK K))
      | ((first | clear hK K | clear IH hK K); refine hK _ _ ?_; try (first | clear hK K | clear IH hK K))
      | ((first | clear hK K | clear IH hK K); (first | clear hK K | clear IH hK K); refine hK _ _ ?_; try (first | clear hK K | clear IH hK K))
      | ((first | clear hK K | clear IH hK K); (first | clear hK K | clear IH hK K); (first | clear hK K | clear IH hK K); refine hK _ _ ?_; try (first | clear hK K | clear IH hK K))
      | (refine AI_skip ?_; try simp only [AThen, ABlk, reduceIte, reduceCtorEq])
      | (refine AI_exit ?_; try simp only [AThen, ABlk, reduceIte, reduceCtorEq])
      | refine AI_cond_t rfl (by first | assumption | with_reducible rfl) ?_
      | refine AI_cond_f rfl (by first | assumption | with_reducible rfl) ?_
      | (refine AS_op (OpR_pick_t rfl (by first | assumption | with_reducible rfl) rfl ?_); try (simp only [st, List.set_cons_zero, List.set_cons_succ]))
      | (refine AS_op (OpR_pick_f rfl (by first | assumption | with_reducible rfl) rfl ?_); try (simp only [st, List.set_cons_zero, List.set_cons_succ]))
      | refine AS_gy rfl (by first | assumption | with_reducible rfl) ?_
      | (refine AS_gtn rfl (by first | assumption | with_reducible rfl) ?_)
      | (refine AS_gfn rfl (by first | assumption | with_reducible rfl) ?_)
      | refine AI_block (AI_loop ?_)
      | refine AI_block ?_
      | refine AI_ret ⟨_, rfl, ?_⟩
  refine AS_op (OpR_load rfl (loadA_1 ag3 hm) ?_)
  try (simp only [st, List.set_cons_zero, List.set_cons_succ])
  repeat
    first
      | refine AI_seqk fun K hK => ?_
      | refine AI_reg ?_
      | (refine AS_op (OpR_move rfl ?_); try (simp only [st, List.set_cons_zero, List.set_cons_succ]))
      | (refine AS_op (OpR_assign rfl ?_); try (simp only [st, List.set_cons_zero, List.set_cons_succ]))
      | (refine AS_op (OpR_arith _ rfl rfl rfl (by omega) (by omega) ?_); try (simp only [st, List.set_cons_zero, List.set_cons_succ]))
      | (refine AS_op (OpR_bin rfl rfl rfl ?_); try (simp only [st, List.set_cons_zero, List.set_cons_succ]))
      | (refine AS_op (OpR_not rfl ?_); try (simp only [st, List.set_cons_zero, List.set_cons_succ]))
      | (refine AS_op (OpR_extract rfl rfl ?_); try (simp only [st, List.set_cons_zero, List.set_cons_succ]))
      | (refine AS_op (OpR_pick_b rfl rfl rfl ?_); try (simp only [st, List.set_cons_zero, List.set_cons_succ]))
      | (refine AS_op (OpR_makeFunc rfl ?_); try (simp only [st, List.set_cons_zero, List.set_cons_succ]))
      | (refine AS_op (OpR_beq Try.underlying4 rfl rfl _ (.inr ⟨rfl, rfl⟩) ?_); try (simp only [st, List.set_cons_zero, List.set_cons_succ]))
      | (refine AS_op (OpR_beq Try.underlying4 rfl rfl _ (.inl ⟨rfl, rfl⟩) ?_); try (simp only [st, List.set_cons_zero, List.set_cons_succ]))
      | (refine AS_nil ?_; try simp only [AThen, ABlk, reduceIte, reduceCtorEq])
      | (refine hK _ _ ?_; try (first | clear hK K | clear IH hK K))
      | ((first | clear hK K | clear IH hK K); refine hK _ _ ?_; try (first | clear hK K | clear IH hK K))
      | ((first | clear hK K | clear IH hK K); (first | clear hK K | clear IH hK K); refine hK _ _ ?_; try (first | clear hK K | clear IH hK K))
      | ((first | clear hK K | clear IH hK K); (first | clear hK K | clear IH hK K); (first | clear hK K | clear IH hK K); refine hK _ _ ?_; try (first | clear hK K | clear IH hK K))
      | (refine AI_skip ?_; try simp only [AThen, ABlk, reduceIte, reduceCtorEq])
      | (refine AI_exit ?_; try simp only [AThen, ABlk, reduceIte, reduceCtorEq])
      | refine AI_cond_t rfl (by first | assumption | with_reducible rfl) ?_
      | refine AI_cond_f rfl (by first | assumption | with_reducible rfl) ?_
      | (refine AS_op (OpR_pick_t rfl (by first | assumption | with_reducible rfl) rfl ?_); try (simp only [st, List.set_cons_zero, List.set_cons_succ]))
      | (refine AS_op (OpR_pick_f rfl (by first | assumption | with_reducible rfl) rfl ?_); try (simp only [st, List.set_cons_zero, List.set_cons_succ]))
      | refine AS_gy rfl (by first | assumption | with_reducible rfl) ?_
      | (refine AS_gtn rfl (by first | assumption | with_reducible rfl) ?_)
      | (refine AS_gfn rfl (by first | assumption | with_reducible rfl) ?_)
      | refine AI_block (AI_loop ?_)
      | refine AI_block ?_
      | refine AI_ret ⟨_, rfl, ?_⟩
  refine AS_op (OpR_call rfl rfl (in_ac _ _ _ _) ?_)
  rintro _ _ wf1 ⟨rfl, rfl⟩
  try (simp only [st, List.set_cons_zero, List.set_cons_succ])
  repeat
    first
      | refine AI_seqk fun K hK => ?_
      | refine AI_reg ?_
      | (refine AS_op (OpR_move rfl ?_); try (simp only [st, List.set_cons_zero, List.set_cons_succ]))
      | (refine AS_op (OpR_assign rfl ?_); try (simp only [st, List.set_cons_zero, List.set_cons_succ]))
      | (refine AS_op (OpR_arith _ rfl rfl rfl (by omega) (by omega) ?_); try (simp only [st, List.set_cons_zero, List.set_cons_succ]))
      | (refine AS_op (OpR_bin rfl rfl rfl ?_); try (simp only [st, List.set_cons_zero, List.set_cons_succ]))
      | (refine AS_op (OpR_not rfl ?_); try (simp only [st, List.set_cons_zero, List.set_cons_succ]))
      | (refine AS_op (OpR_extract rfl rfl ?_); try (simp only [st, List.set_cons_zero, List.set_cons_succ]))
      | (refine AS_op (OpR_pick_b rfl rfl rfl ?_); try (simp only [st, List.set_cons_zero, List.set_cons_succ]))
      | (refine AS_op (OpR_makeFunc rfl ?_); try (simp only [st, List.set_cons_zero, List.set_cons_succ]))
      | (refine AS_op (OpR_beq Try.underlying4 rfl rfl _ (.inr ⟨rfl, rfl⟩) ?_); try (simp only [st, List.set_cons_zero, List.set_cons_succ]))
      | (refine AS_op (OpR_beq Try.underlying4 rfl rfl _ (.inl ⟨rfl, rfl⟩) ?_); try (simp only [st, List.set_cons_zero, List.set_cons_succ]))
      | (refine AS_nil ?_; try simp only [AThen, ABlk, reduceIte, reduceCtorEq])
      | (refine hK _ _ ?_; try (first | clear hK K | clear IH hK K))
      | ((first | clear hK K | clear IH hK K); refine hK _ _ ?_; try (first | clear hK K | clear IH hK K))
      | ((first | clear hK K | clear IH hK K); (first | clear hK K | clear IH hK K); refine hK _ _ ?_; try (first | clear hK K | clear IH hK K))
      | ((first | clear hK K | clear IH hK K); (first | clear hK K | clear IH hK K); (first | clear hK K | clear IH hK K); refine hK _ _ ?_; try (first | clear hK K | clear IH hK K))
      | (refine AI_skip ?_; try simp only [AThen, ABlk, reduceIte, reduceCtorEq])
      | (refine AI_exit ?_; try simp only [AThen, ABlk, reduceIte, reduceCtorEq])
      | refine AI_cond_t rfl (by first | assumption | with_reducible rfl) ?_
      | refine AI_cond_f rfl (by first | assumption | with_reducible rfl) ?_
      | (refine AS_op (OpR_pick_t rfl (by first | assumption | with_reducible rfl) rfl ?_); try (simp only [st, List.set_cons_zero, List.set_cons_succ]))
      | (refine AS_op (OpR_pick_f rfl (by first | assumption | with_reducible rfl) rfl ?_); try (simp only [st, List.set_cons_zero, List.set_cons_succ]))
      | refine AS_gy rfl (by first | assumption | with_reducible rfl) ?_
      | (refine AS_gtn rfl (by first | assumption | with_reducible rfl) ?_)
      | (refine AS_gfn rfl (by first | assumption | with_reducible rfl) ?_)
      | refine AI_block (AI_loop ?_)
      | refine AI_block ?_
      | refine AI_ret ⟨_, rfl, ?_⟩
  exact ⟨rfl, rfl⟩

theorem residuesOk_ac (l : List Int) (v : AV) (m : Int) (h : AH) (hR : Rd h v l) (hl : l.length ≤ 4611686018427387904) :
    AC Try.prog 43 [v, .i .i64 m] h (fun r h' => r = .b (decide (2 ≤ m ∧ m ≤ 10000) && l.all (fun x => decide (0 ≤ x ∧ x ≤ m - 1))) ∧ h.le h') := by
  refine e43 _ _ fun wf => ?_
  unfold c43
  repeat
    first
      | refine AI_seqk fun K hK => ?_
      | refine AI_reg ?_
      | (refine AS_op (OpR_move rfl ?_); try (simp only [st, List.set_cons_zero, List.set_cons_succ]))
      | (refine AS_op (OpR_assign rfl ?_); try (simp only [st, List.set_cons_zero, List.set_cons_succ]))
      | (refine AS_op (OpR_arith _ rfl rfl rfl (by omega) (by omega) ?_); try (simp only [st, List.set_cons_zero, List.set_cons_succ]))
      | (refine AS_op (OpR_bin rfl rfl rfl ?_); try (simp only [st, List.set_cons_zero, List.set_cons_succ]))
      | (refine AS_op (OpR_not rfl ?_); try (simp only [st, List.set_cons_zero, List.set_cons_succ]))
      | (refine AS_op (OpR_extract rfl rfl ?_); try (simp only [st, List.set_cons_zero, List.set_cons_succ]))
      | (refine AS_op (OpR_pick_b rfl rfl rfl ?_); try (simp only [st, List.set_cons_zero, List.set_cons_succ]))
      | (refine AS_op (OpR_makeFunc rfl ?_); try (simp only [st, List.set_cons_zero, List.set_cons_succ]))
      | (refine AS_op (OpR_beq Try.underlying4 rfl rfl _ (.inr ⟨rfl, rfl⟩) ?_); try (simp only [st, List.set_cons_zero, List.set_cons_succ]))
      | (refine AS_op (OpR_beq Try.underlying4 rfl rfl _ (.inl ⟨rfl, rfl⟩) ?_); try (simp only [st, List.set_cons_zero, List.set_cons_succ]))
      | (refine AS_nil ?_; try simp only [AThen, ABlk, reduceIte, reduceCtorEq])
      | (refine hK _ _ ?_; try (first | clear hK K | clear IH hK K))
      | ((first | clear hK K | clear IH hK K); refine hK _ _ ?_; try (first | clear hK K | clear IH hK K))
      | ((first | clear hK K | clear IH hK K); (first | clear hK K | clear IH hK K); refine hK _ _ ?_; try (first | clear hK K | clear IH hK K))
      | ((first | clear hK K | clear IH hK K); (first | clear hK K | clear IH hK K); (first | clear hK K | clear IH hK K); refine hK _ _ ?_; try (first | clear hK K | clear IH hK K))
      | (refine AI_skip ?_; try simp only [AThen, ABlk, reduceIte, reduceCtorEq])
      | (refine AI_exit ?_; try simp only [AThen, ABlk, reduceIte, reduceCtorEq])
      | refine AI_cond_t rfl (by first | assumption | with_reducible rfl) ?_
      | refine AI_cond_f rfl (by first | assumption | with_reducible rfl) ?_
      | (refine AS_op (OpR_pick_t rfl (by first | assumption | with_reducible rfl) rfl ?_); try (simp only [st, List.set_cons_zero, List.set_cons_succ]))
      | (refine AS_op (OpR_pick_f rfl (by first | assumption | with_reducible rfl) rfl ?_); try (simp only [st, List.set_cons_zero, List.set_cons_succ]))
      | refine AS_gy rfl (by first | assumption | with_reducible rfl) ?_
      | (refine AS_gtn rfl (by first | assumption | with_reducible rfl) ?_)
      | (refine AS_gfn rfl (by first | assumption | with_reducible rfl) ?_)
      | refine AI_block (AI_loop ?_)
      | refine AI_block ?_
      | refine AI_ret ⟨_, rfl, ?_⟩
  refine AS_op (OpR_box1 1 rfl rfl ?_)
  obtain ⟨h1, b, e1, e2, hle, hcell, wf2⟩ := new_ctx wf 1 (.i .i64 m)
  rw [← e1, ← e2]
  try (simp only [st, List.set_cons_zero, List.set_cons_succ])
  repeat
    first
      | refine AI_seqk fun K hK => ?_
      | refine AI_reg ?_
      | (refine AS_op (OpR_move rfl ?_); try (simp only [st, List.set_cons_zero, List.set_cons_succ]))
      | (refine AS_op (OpR_assign rfl ?_); try (simp only [st, List.set_cons_zero, List.set_cons_succ]))
      | (refine AS_op (OpR_arith _ rfl rfl rfl (by omega) (by omega) ?_); try (simp only [st, List.set_cons_zero, List.set_cons_succ]))
      | (refine AS_op (OpR_bin rfl rfl rfl ?_); try (simp only [st, List.set_cons_zero, List.set_cons_succ]))
      | (refine AS_op (OpR_not rfl ?_); try (simp only [st, List.set_cons_zero, List.set_cons_succ]))
      | (refine AS_op (OpR_extract rfl rfl ?_); try (simp only [st, List.set_cons_zero, List.set_cons_succ]))
      | (refine AS_op (OpR_pick_b rfl rfl rfl ?_); try (simp only [st, List.set_cons_zero, List.set_cons_succ]))
      | (refine AS_op (OpR_makeFunc rfl ?_); try (simp only [st, List.set_cons_zero, List.set_cons_succ]))
      | (refine AS_op (OpR_beq Try.underlying4 rfl rfl _ (.inr ⟨rfl, rfl⟩) ?_); try (simp only [st, List.set_cons_zero, List.set_cons_succ]))
      | (refine AS_op (OpR_beq Try.underlying4 rfl rfl _ (.inl ⟨rfl, rfl⟩) ?_); try (simp only [st, List.set_cons_zero, List.set_cons_succ]))
      | (refine AS_nil ?_; try simp only [AThen, ABlk, reduceIte, reduceCtorEq])
      | (refine hK _ _ ?_; try (first | clear hK K | clear IH hK K))
      | ((first | clear hK K | clear IH hK K); refine hK _ _ ?_; try (first | clear hK K | clear IH hK K))
      | ((first | clear hK K | clear IH hK K); (first | clear hK K | clear IH hK K); refine hK _ _ ?_; try (first | clear hK K | clear IH hK K))
      | ((first | clear hK K | clear IH hK K); (first | clear hK K | clear IH hK K); (first | clear hK K | clear IH hK K); refine hK _ _ ?_; try (first | clear hK K | clear IH hK K))
      | (refine AI_skip ?_; try simp only [AThen, ABlk, reduceIte, reduceCtorEq])
      | (refine AI_exit ?_; try simp only [AThen, ABlk, reduceIte, reduceCtorEq])
      | refine AI_cond_t rfl (by first | assumption | with_reducible rfl) ?_
      | refine AI_cond_f rfl (by first | assumption | with_reducible rfl) ?_
      | (refine AS_op (OpR_pick_t rfl (by first | assumption | with_reducible rfl) rfl ?_); try (simp only [st, List.set_cons_zero, List.set_cons_succ]))
      | (refine AS_op (OpR_pick_f rfl (by first | assumption | with_reducible rfl) rfl ?_); try (simp only [st, List.set_cons_zero, List.set_cons_succ]))
      | refine AS_gy rfl (by first | assumption | with_reducible rfl) ?_
      | (refine AS_gtn rfl (by first | assumption | with_reducible rfl) ?_)
      | (refine AS_gfn rfl (by first | assumption | with_reducible rfl) ?_)
      | refine AI_block (AI_loop ?_)
      | refine AI_block ?_
      | refine AI_ret ⟨_, rfl, ?_⟩
  refine AS_op (OpR_load rfl (loadA_1 ag3 hcell) ?_)
  try (simp only [st, List.set_cons_zero, List.set_cons_succ])
  repeat
    first
      | refine AI_seqk fun K hK => ?_
      | refine AI_reg ?_
      | (refine AS_op (OpR_move rfl ?_); try (simp only [st, List.set_cons_zero, List.set_cons_succ]))
      | (refine AS_op (OpR_assign rfl ?_); try (simp only [st, List.set_cons_zero, List.set_cons_succ]))
      | (refine AS_op (OpR_arith _ rfl rfl rfl (by omega) (by omega) ?_); try (simp only [st, List.set_cons_zero, List.set_cons_succ]))
      | (refine AS_op (OpR_bin rfl rfl rfl ?_); try (simp only [st, List.set_cons_zero, List.set_cons_succ]))
      | (refine AS_op (OpR_not rfl ?_); try (simp only [st, List.set_cons_zero, List.set_cons_succ]))
      | (refine AS_op (OpR_extract rfl rfl ?_); try (simp only [st, List.set_cons_zero, List.set_cons_succ]))
      | (refine AS_op (OpR_pick_b rfl rfl rfl ?_); try (simp only [st, List.set_cons_zero, List.set_cons_succ]))
      | (refine AS_op (OpR_makeFunc rfl ?_); try (simp only [st, List.set_cons_zero, List.set_cons_succ]))
      | (refine AS_op (OpR_beq Try.underlying4 rfl rfl _ (.inr ⟨rfl, rfl⟩) ?_); try (simp only [st, List.set_cons_zero, List.set_cons_succ]))
      | (refine AS_op (OpR_beq Try.underlying4 rfl rfl _ (.inl ⟨rfl, rfl⟩) ?_); try (simp only [st, List.set_cons_zero, List.set_cons_succ]))
      | (refine AS_nil ?_; try simp only [AThen, ABlk, reduceIte, reduceCtorEq])
      | (refine hK _ _ ?_; try (first | clear hK K | clear IH hK K))
      | ((first | clear hK K | clear IH hK K); refine hK _ _ ?_; try (first | clear hK K | clear IH hK K))
      | ((first | clear hK K | clear IH hK K); (first | clear hK K | clear IH hK K); refine hK _ _ ?_; try (first | clear hK K | clear IH hK K))
      | ((first | clear hK K | clear IH hK K); (first | clear hK K | clear IH hK K); (first | clear hK K | clear IH hK K); refine hK _ _ ?_; try (first | clear hK K | clear IH hK K))
      | (refine AI_skip ?_; try simp only [AThen, ABlk, reduceIte, reduceCtorEq])
      | (refine AI_exit ?_; try simp only [AThen, ABlk, reduceIte, reduceCtorEq])
      | refine AI_cond_t rfl (by first | assumption | with_reducible rfl) ?_
      | refine AI_cond_f rfl (by first | assumption | with_reducible rfl) ?_
      | (refine AS_op (OpR_pick_t rfl (by first | assumption | with_reducible rfl) rfl ?_); try (simp only [st, List.set_cons_zero, List.set_cons_succ]))
      | (refine AS_op (OpR_pick_f rfl (by first | assumption | with_reducible rfl) rfl ?_); try (simp only [st, List.set_cons_zero, List.set_cons_succ]))
      | refine AS_gy rfl (by first | assumption | with_reducible rfl) ?_
      | (refine AS_gtn rfl (by first | assumption | with_reducible rfl) ?_)
      | (refine AS_gfn rfl (by first | assumption | with_reducible rfl) ?_)
      | refine AI_block (AI_loop ?_)
      | refine AI_block ?_
      | refine AI_ret ⟨_, rfl, ?_⟩
  refine AS_op (OpR_call rfl rfl (modulusOk_ac _ _) ?_)
  rintro _ _ wf1 ⟨rfl, rfl⟩
  try (simp only [st, List.set_cons_zero, List.set_cons_succ])
  repeat
    first
      | refine AI_seqk fun K hK => ?_
      | refine AI_reg ?_
      | (refine AS_op (OpR_move rfl ?_); try (simp only [st, List.set_cons_zero, List.set_cons_succ]))
      | (refine AS_op (OpR_assign rfl ?_); try (simp only [st, List.set_cons_zero, List.set_cons_succ]))
      | (refine AS_op (OpR_arith _ rfl rfl rfl (by omega) (by omega) ?_); try (simp only [st, List.set_cons_zero, List.set_cons_succ]))
      | (refine AS_op (OpR_bin rfl rfl rfl ?_); try (simp only [st, List.set_cons_zero, List.set_cons_succ]))
      | (refine AS_op (OpR_not rfl ?_); try (simp only [st, List.set_cons_zero, List.set_cons_succ]))
      | (refine AS_op (OpR_extract rfl rfl ?_); try (simp only [st, List.set_cons_zero, List.set_cons_succ]))
      | (refine AS_op (OpR_pick_b rfl rfl rfl ?_); try (simp only [st, List.set_cons_zero, List.set_cons_succ]))
      | (refine AS_op (OpR_makeFunc rfl ?_); try (simp only [st, List.set_cons_zero, List.set_cons_succ]))
      | (refine AS_op (OpR_beq Try.underlying4 rfl rfl _ (.inr ⟨rfl, rfl⟩) ?_); try (simp only [st, List.set_cons_zero, List.set_cons_succ]))
      | (refine AS_op (OpR_beq Try.underlying4 rfl rfl _ (.inl ⟨rfl, rfl⟩) ?_); try (simp only [st, List.set_cons_zero, List.set_cons_succ]))
      | (refine AS_nil ?_; try simp only [AThen, ABlk, reduceIte, reduceCtorEq])
      | (refine hK _ _ ?_; try (first | clear hK K | clear IH hK K))
      | ((first | clear hK K | clear IH hK K); refine hK _ _ ?_; try (first | clear hK K | clear IH hK K))
      | ((first | clear hK K | clear IH hK K); (first | clear hK K | clear IH hK K); refine hK _ _ ?_; try (first | clear hK K | clear IH hK K))
      | ((first | clear hK K | clear IH hK K); (first | clear hK K | clear IH hK K); (first | clear hK K | clear IH hK K); refine hK _ _ ?_; try (first | clear hK K | clear IH hK K))
      | (refine AI_skip ?_; try simp only [AThen, ABlk, reduceIte, reduceCtorEq])
      | (refine AI_exit ?_; try simp only [AThen, ABlk, reduceIte, reduceCtorEq])
      | refine AI_cond_t rfl (by first | assumption | with_reducible rfl) ?_
      | refine AI_cond_f rfl (by first | assumption | with_reducible rfl) ?_
      | (refine AS_op (OpR_pick_t rfl (by first | assumption | with_reducible rfl) rfl ?_); try (simp only [st, List.set_cons_zero, List.set_cons_succ]))
      | (refine AS_op (OpR_pick_f rfl (by first | assumption | with_reducible rfl) rfl ?_); try (simp only [st, List.set_cons_zero, List.set_cons_succ]))
      | refine AS_gy rfl (by first | assumption | with_reducible rfl) ?_
      | (refine AS_gtn rfl (by first | assumption | with_reducible rfl) ?_)
      | (refine AS_gfn rfl (by first | assumption | with_reducible rfl) ?_)
      | refine AI_block (AI_loop ?_)
      | refine AI_block ?_
      | refine AI_ret ⟨_, rfl, ?_⟩
  (first | refine AS_gt rfl ?_ ?_ | refine AS_gf rfl ?_ ?_ | refine AI_cond rfl ?_ ?_) <;> intro hc <;> have hc' := hc <;> (try simp only [decide_eq_true_eq, decide_eq_false_iff_not, Bool.not_eq_true', Bool.not_eq_false', Bool.not_eq_true, Bool.not_eq_false, beq_iff_eq, bne_iff_ne, beq_eq_false_iff_ne, bne_eq_false_iff_eq, Int.not_lt, Int.not_le, ge_iff_le, gt_iff_lt, not_and, ne_eq, Decidable.not_not] at hc')
  all_goals
    repeat
      first
        | refine AI_seqk fun K hK => ?_
        | refine AI_reg ?_
        | (refine AS_op (OpR_move rfl ?_); try (simp only [st, List.set_cons_zero, List.set_cons_succ]))
        | (refine AS_op (OpR_assign rfl ?_); try (simp only [st, List.set_cons_zero, List.set_cons_succ]))
        | (refine AS_op (OpR_arith _ rfl rfl rfl (by omega) (by omega) ?_); try (simp only [st, List.set_cons_zero, List.set_cons_succ]))
        | (refine AS_op (OpR_bin rfl rfl rfl ?_); try (simp only [st, List.set_cons_zero, List.set_cons_succ]))
        | (refine AS_op (OpR_not rfl ?_); try (simp only [st, List.set_cons_zero, List.set_cons_succ]))
        | (refine AS_op (OpR_extract rfl rfl ?_); try (simp only [st, List.set_cons_zero, List.set_cons_succ]))
        | (refine AS_op (OpR_pick_b rfl rfl rfl ?_); try (simp only [st, List.set_cons_zero, List.set_cons_succ]))
        | (refine AS_op (OpR_makeFunc rfl ?_); try (simp only [st, List.set_cons_zero, List.set_cons_succ]))
        | (refine AS_op (OpR_beq Try.underlying4 rfl rfl _ (.inr ⟨rfl, rfl⟩) ?_); try (simp only [st, List.set_cons_zero, List.set_cons_succ]))
        | (refine AS_op (OpR_beq Try.underlying4 rfl rfl _ (.inl ⟨rfl, rfl⟩) ?_); try (simp only [st, List.set_cons_zero, List.set_cons_succ]))
        | (refine AS_nil ?_; try simp only [AThen, ABlk, reduceIte, reduceCtorEq])
        | (refine hK _ _ ?_; try (first | clear hK K | clear IH hK K))
        | ((first | clear hK K | clear IH hK K); refine hK _ _ ?_; try (first | clear hK K | clear IH hK K))
        | ((first | clear hK K | clear IH hK K); (first | clear hK K | clear IH hK K); refine hK _ _ ?_; try (first | clear hK K | clear IH hK K))
        | ((first | clear hK K | clear IH hK K); (first | clear hK K | clear IH hK K); (first | clear hK K | clear IH hK K); refine hK _ _ ?_; try (first | clear hK K | clear IH hK K))
        | (refine AI_skip ?_; try simp only [AThen, ABlk, reduceIte, reduceCtorEq])
        | (refine AI_exit ?_; try simp only [AThen, ABlk, reduceIte, reduceCtorEq])
        | refine AI_cond_t rfl (by first | assumption | with_reducible rfl) ?_
        | refine AI_cond_f rfl (by first | assumption | with_reducible rfl) ?_
        | (refine AS_op (OpR_pick_t rfl (by first | assumption | with_reducible rfl) rfl ?_); try (simp only [st, List.set_cons_zero, List.set_cons_succ]))
        | (refine AS_op (OpR_pick_f rfl (by first | assumption | with_reducible rfl) rfl ?_); try (simp only [st, List.set_cons_zero, List.set_cons_succ]))
        | refine AS_gy rfl (by first | assumption | with_reducible rfl) ?_
        | (refine AS_gtn rfl (by first | assumption | with_reducible rfl) ?_)
        | (refine AS_gfn rfl (by first | assumption | with_reducible rfl) ?_)
        | refine AI_block (AI_loop ?_)
        | refine AI_block ?_
        | refine AI_ret ⟨_, rfl, ?_⟩
  · refine AS_op (OpR_call rfl rfl (ContainsFunc_int_ac l v _ _ (fun x => !decide (0 ≤ x ∧ x ≤ m - 1)) _ (hR.le hle) hl ?_) ?_)
    · intro x _ h' hle'
      exact (residuesOk_1_ac x m b h' (hle'.cell hcell) (by omega) (by omega)).mono fun v h'' ⟨e1, e2⟩ => ⟨e1, by rw [← e2]; exact .refl _⟩
    rintro _ h2 wf3 ⟨rfl, hle2⟩; (simp only [st, List.set_cons_zero, List.set_cons_succ])
    repeat
      first
        | refine AI_seqk fun K hK => ?_
        | refine AI_reg ?_
        | (refine AS_op (OpR_move rfl ?_); try (simp only [st, List.set_cons_zero, List.set_cons_succ]))
        | (refine AS_op (OpR_assign rfl ?_); try (simp only [st, List.set_cons_zero, List.set_cons_succ]))
        | (refine AS_op (OpR_arith _ rfl rfl rfl (by omega) (by omega) ?_); try (simp only [st, List.set_cons_zero, List.set_cons_succ]))
        | (refine AS_op (OpR_bin rfl rfl rfl ?_); try (simp only [st, List.set_cons_zero, List.set_cons_succ]))
        | (refine AS_op (OpR_not rfl ?_); try (simp only [st, List.set_cons_zero, List.set_cons_succ]))
        | (refine AS_op (OpR_extract rfl rfl ?_); try (simp only [st, List.set_cons_zero, List.set_cons_succ]))
        | (refine AS_op (OpR_pick_b rfl rfl rfl ?_); try (simp only [st, List.set_cons_zero, List.set_cons_succ]))
        | (refine AS_op (OpR_makeFunc rfl ?_); try (simp only [st, List.set_cons_zero, List.set_cons_succ]))
        | (refine AS_op (OpR_beq Try.underlying4 rfl rfl _ (.inr ⟨rfl, rfl⟩) ?_); try (simp only [st, List.set_cons_zero, List.set_cons_succ]))
        | (refine AS_op (OpR_beq Try.underlying4 rfl rfl _ (.inl ⟨rfl, rfl⟩) ?_); try (simp only [st, List.set_cons_zero, List.set_cons_succ]))
        | (refine AS_nil ?_; try simp only [AThen, ABlk, reduceIte, reduceCtorEq])
        | (refine hK _ _ ?_; try (first | clear hK K | clear IH hK K))
        | ((first | clear hK K | clear IH hK K); refine hK _ _ ?_; try (first | clear hK K | clear IH hK K))
        | ((first | clear hK K | clear IH hK K); (first | clear hK K | clear IH hK K); refine hK _ _ ?_; try (first | clear hK K | clear IH hK K))
        | ((first | clear hK K | clear IH hK K); (first | clear hK K | clear IH hK K); (first | clear hK K | clear IH hK K); refine hK _ _ ?_; try (first | clear hK K | clear IH hK K))
        | (refine AI_skip ?_; try simp only [AThen, ABlk, reduceIte, reduceCtorEq])
        | (refine AI_exit ?_; try simp only [AThen, ABlk, reduceIte, reduceCtorEq])
        | refine AI_cond_t rfl (by first | assumption | with_reducible rfl) ?_
        | refine AI_cond_f rfl (by first | assumption | with_reducible rfl) ?_
        | (refine AS_op (OpR_pick_t rfl (by first | assumption | with_reducible rfl) rfl ?_); try (simp only [st, List.set_cons_zero, List.set_cons_succ]))
        | (refine AS_op (OpR_pick_f rfl (by first | assumption | with_reducible rfl) rfl ?_); try (simp only [st, List.set_cons_zero, List.set_cons_succ]))
        | refine AS_gy rfl (by first | assumption | with_reducible rfl) ?_
        | (refine AS_gtn rfl (by first | assumption | with_reducible rfl) ?_)
        | (refine AS_gfn rfl (by first | assumption | with_reducible rfl) ?_)
        | refine AI_block (AI_loop ?_)
        | refine AI_block ?_
        | refine AI_ret ⟨_, rfl, ?_⟩
    refine ⟨?_, hle.trans hle2⟩
    simp [oneA, hc', List.not_any_eq_all_not]
  · refine ⟨?_, hle⟩
    simp [oneA]
    omega

/-- The order, as both count it. -/
def ordL (x m : Int) : Nat → Int → Int → Int × Bool
  | 0, _, _ => (0, false)
  | n + 1, e, y => if y = 1 then (e, true) else ordL x m n (e + 1) ((y * x).tmod m)

def ordM (x m : Int) : Int × Bool := if 2 ≤ m ∧ m ≤ 10000 ∧ 0 ≤ x ∧ x ≤ m - 1 then ordL x m m.toNat 1 x else (0, false)

theorem mul_bd {x y m : Int} (h0 : 0 ≤ x) (h1 : x ≤ m) (h2 : 0 ≤ y) (h3 : y ≤ m) (hm : m ≤ 10000) : 0 ≤ x * y ∧ x * y ≤ 100000000 := by
  refine ⟨Int.mul_nonneg h0 h2, ?_⟩
  have a1 : x * y ≤ 10000 * y := Int.mul_le_mul_of_nonneg_right (by omega) h2
  omega

theorem tmod_bd {x m : Int} (hx : 0 ≤ x) (hm : 2 ≤ m) : 0 ≤ x.tmod m ∧ x.tmod m ≤ m - 1 := by
  have h1 := Int.tmod_nonneg m hx
  have h2 := Int.tmod_lt_of_pos x (show 0 < m by omega)
  omega

theorem specOrder_ac (x m : Int) (h : AH) : AC Try.prog 12 [.i .i64 x, .i .i64 m] h (fun r h' => r = .tup [.i .i64 (ordM x m).1, .b (ordM x m).2] ∧ h.le h') := by
  refine e12 _ _ fun wf => ?_
  unfold c12
  repeat
    first
      | refine AI_seqk fun K hK => ?_
      | refine AI_reg ?_
      | (refine AS_op (OpR_move rfl ?_); try (simp only [st, List.set_cons_zero, List.set_cons_succ]))
      | (refine AS_op (OpR_assign rfl ?_); try (simp only [st, List.set_cons_zero, List.set_cons_succ]))
      | (refine AS_op (OpR_arith _ rfl rfl rfl (by omega) (by omega) ?_); try (simp only [st, List.set_cons_zero, List.set_cons_succ]))
      | (refine AS_op (OpR_bin rfl rfl rfl ?_); try (simp only [st, List.set_cons_zero, List.set_cons_succ]))
      | (refine AS_op (OpR_not rfl ?_); try (simp only [st, List.set_cons_zero, List.set_cons_succ]))
      | (refine AS_op (OpR_extract rfl rfl ?_); try (simp only [st, List.set_cons_zero, List.set_cons_succ]))
      | (refine AS_op (OpR_pick_b rfl rfl rfl ?_); try (simp only [st, List.set_cons_zero, List.set_cons_succ]))
      | (refine AS_op (OpR_makeFunc rfl ?_); try (simp only [st, List.set_cons_zero, List.set_cons_succ]))
      | (refine AS_op (OpR_beq Try.underlying4 rfl rfl _ (.inr ⟨rfl, rfl⟩) ?_); try (simp only [st, List.set_cons_zero, List.set_cons_succ]))
      | (refine AS_op (OpR_beq Try.underlying4 rfl rfl _ (.inl ⟨rfl, rfl⟩) ?_); try (simp only [st, List.set_cons_zero, List.set_cons_succ]))
      | (refine AS_nil ?_; try simp only [AThen, ABlk, reduceIte, reduceCtorEq])
      | (refine hK _ _ ?_; try (first | clear hK K | clear IH hK K))
      | ((first | clear hK K | clear IH hK K); refine hK _ _ ?_; try (first | clear hK K | clear IH hK K))
      | ((first | clear hK K | clear IH hK K); (first | clear hK K | clear IH hK K); refine hK _ _ ?_; try (first | clear hK K | clear IH hK K))
      | ((first | clear hK K | clear IH hK K); (first | clear hK K | clear IH hK K); (first | clear hK K | clear IH hK K); refine hK _ _ ?_; try (first | clear hK K | clear IH hK K))
      | (refine AI_skip ?_; try simp only [AThen, ABlk, reduceIte, reduceCtorEq])
      | (refine AI_exit ?_; try simp only [AThen, ABlk, reduceIte, reduceCtorEq])
      | refine AI_cond_t rfl (by first | assumption | with_reducible rfl) ?_
      | refine AI_cond_f rfl (by first | assumption | with_reducible rfl) ?_
      | (refine AS_op (OpR_pick_t rfl (by first | assumption | with_reducible rfl) rfl ?_); try (simp only [st, List.set_cons_zero, List.set_cons_succ]))
      | (refine AS_op (OpR_pick_f rfl (by first | assumption | with_reducible rfl) rfl ?_); try (simp only [st, List.set_cons_zero, List.set_cons_succ]))
      | refine AS_gy rfl (by first | assumption | with_reducible rfl) ?_
      | (refine AS_gtn rfl (by first | assumption | with_reducible rfl) ?_)
      | (refine AS_gfn rfl (by first | assumption | with_reducible rfl) ?_)
      | refine AI_block (AI_loop ?_)
      | refine AI_block ?_
      | refine AI_ret ⟨_, rfl, ?_⟩
  refine AS_op (OpR_call rfl rfl (moModulus_ac _ _) ?_)
  rintro _ _ wf1 ⟨rfl, rfl⟩
  try (simp only [st, List.set_cons_zero, List.set_cons_succ])
  repeat
    first
      | refine AI_seqk fun K hK => ?_
      | refine AI_reg ?_
      | (refine AS_op (OpR_move rfl ?_); try (simp only [st, List.set_cons_zero, List.set_cons_succ]))
      | (refine AS_op (OpR_assign rfl ?_); try (simp only [st, List.set_cons_zero, List.set_cons_succ]))
      | (refine AS_op (OpR_arith _ rfl rfl rfl (by omega) (by omega) ?_); try (simp only [st, List.set_cons_zero, List.set_cons_succ]))
      | (refine AS_op (OpR_bin rfl rfl rfl ?_); try (simp only [st, List.set_cons_zero, List.set_cons_succ]))
      | (refine AS_op (OpR_not rfl ?_); try (simp only [st, List.set_cons_zero, List.set_cons_succ]))
      | (refine AS_op (OpR_extract rfl rfl ?_); try (simp only [st, List.set_cons_zero, List.set_cons_succ]))
      | (refine AS_op (OpR_pick_b rfl rfl rfl ?_); try (simp only [st, List.set_cons_zero, List.set_cons_succ]))
      | (refine AS_op (OpR_makeFunc rfl ?_); try (simp only [st, List.set_cons_zero, List.set_cons_succ]))
      | (refine AS_op (OpR_beq Try.underlying4 rfl rfl _ (.inr ⟨rfl, rfl⟩) ?_); try (simp only [st, List.set_cons_zero, List.set_cons_succ]))
      | (refine AS_op (OpR_beq Try.underlying4 rfl rfl _ (.inl ⟨rfl, rfl⟩) ?_); try (simp only [st, List.set_cons_zero, List.set_cons_succ]))
      | (refine AS_nil ?_; try simp only [AThen, ABlk, reduceIte, reduceCtorEq])
      | (refine hK _ _ ?_; try (first | clear hK K | clear IH hK K))
      | ((first | clear hK K | clear IH hK K); refine hK _ _ ?_; try (first | clear hK K | clear IH hK K))
      | ((first | clear hK K | clear IH hK K); (first | clear hK K | clear IH hK K); refine hK _ _ ?_; try (first | clear hK K | clear IH hK K))
      | ((first | clear hK K | clear IH hK K); (first | clear hK K | clear IH hK K); (first | clear hK K | clear IH hK K); refine hK _ _ ?_; try (first | clear hK K | clear IH hK K))
      | (refine AI_skip ?_; try simp only [AThen, ABlk, reduceIte, reduceCtorEq])
      | (refine AI_exit ?_; try simp only [AThen, ABlk, reduceIte, reduceCtorEq])
      | refine AI_cond_t rfl (by first | assumption | with_reducible rfl) ?_
      | refine AI_cond_f rfl (by first | assumption | with_reducible rfl) ?_
      | (refine AS_op (OpR_pick_t rfl (by first | assumption | with_reducible rfl) rfl ?_); try (simp only [st, List.set_cons_zero, List.set_cons_succ]))
      | (refine AS_op (OpR_pick_f rfl (by first | assumption | with_reducible rfl) rfl ?_); try (simp only [st, List.set_cons_zero, List.set_cons_succ]))
      | refine AS_gy rfl (by first | assumption | with_reducible rfl) ?_
      | (refine AS_gtn rfl (by first | assumption | with_reducible rfl) ?_)
      | (refine AS_gfn rfl (by first | assumption | with_reducible rfl) ?_)
      | refine AI_block (AI_loop ?_)
      | refine AI_block ?_
      | refine AI_ret ⟨_, rfl, ?_⟩
  by_cases hv : 2 ≤ m ∧ m ≤ 10000 ∧ 0 ≤ x ∧ x ≤ m - 1
  · first | refine AS_gyH rfl (by simp; omega) ?_ | refine AI_cond_tH rfl (by simp; omega) ?_
    intro hg
    repeat
      first
        | refine AI_seqk fun K hK => ?_
        | refine AI_reg ?_
        | (refine AS_op (OpR_move rfl ?_); try (simp only [st, List.set_cons_zero, List.set_cons_succ]))
        | (refine AS_op (OpR_assign rfl ?_); try (simp only [st, List.set_cons_zero, List.set_cons_succ]))
        | (refine AS_op (OpR_arith _ rfl rfl rfl (by omega) (by omega) ?_); try (simp only [st, List.set_cons_zero, List.set_cons_succ]))
        | (refine AS_op (OpR_bin rfl rfl rfl ?_); try (simp only [st, List.set_cons_zero, List.set_cons_succ]))
        | (refine AS_op (OpR_not rfl ?_); try (simp only [st, List.set_cons_zero, List.set_cons_succ]))
        | (refine AS_op (OpR_extract rfl rfl ?_); try (simp only [st, List.set_cons_zero, List.set_cons_succ]))
        | (refine AS_op (OpR_pick_b rfl rfl rfl ?_); try (simp only [st, List.set_cons_zero, List.set_cons_succ]))
        | (refine AS_op (OpR_makeFunc rfl ?_); try (simp only [st, List.set_cons_zero, List.set_cons_succ]))
        | (refine AS_op (OpR_beq Try.underlying4 rfl rfl _ (.inr ⟨rfl, rfl⟩) ?_); try (simp only [st, List.set_cons_zero, List.set_cons_succ]))
        | (refine AS_op (OpR_beq Try.underlying4 rfl rfl _ (.inl ⟨rfl, rfl⟩) ?_); try (simp only [st, List.set_cons_zero, List.set_cons_succ]))
        | (refine AS_nil ?_; try simp only [AThen, ABlk, reduceIte, reduceCtorEq])
        | (refine hK _ _ ?_; try (first | clear hK K | clear IH hK K))
        | ((first | clear hK K | clear IH hK K); refine hK _ _ ?_; try (first | clear hK K | clear IH hK K))
        | ((first | clear hK K | clear IH hK K); (first | clear hK K | clear IH hK K); refine hK _ _ ?_; try (first | clear hK K | clear IH hK K))
        | ((first | clear hK K | clear IH hK K); (first | clear hK K | clear IH hK K); (first | clear hK K | clear IH hK K); refine hK _ _ ?_; try (first | clear hK K | clear IH hK K))
        | (refine AI_skip ?_; try simp only [AThen, ABlk, reduceIte, reduceCtorEq])
        | (refine AI_exit ?_; try simp only [AThen, ABlk, reduceIte, reduceCtorEq])
        | refine AI_cond_t rfl (by first | assumption | with_reducible rfl) ?_
        | refine AI_cond_f rfl (by first | assumption | with_reducible rfl) ?_
        | (refine AS_op (OpR_pick_t rfl (by first | assumption | with_reducible rfl) rfl ?_); try (simp only [st, List.set_cons_zero, List.set_cons_succ]))
        | (refine AS_op (OpR_pick_f rfl (by first | assumption | with_reducible rfl) rfl ?_); try (simp only [st, List.set_cons_zero, List.set_cons_succ]))
        | refine AS_gy rfl (by first | assumption | with_reducible rfl) ?_
        | (refine AS_gtn rfl (by first | assumption | with_reducible rfl) ?_)
        | (refine AS_gfn rfl (by first | assumption | with_reducible rfl) ?_)
        | refine AI_block (AI_loop ?_)
        | refine AI_block ?_
        | refine AI_ret ⟨_, rfl, ?_⟩
    refine AS_op (OpR_call rfl rfl (l1In_ac _ _ _ _) ?_)
    rintro _ _ wf2 ⟨rfl, rfl⟩
    try (simp only [st, List.set_cons_zero, List.set_cons_succ])
    repeat
      first
        | refine AI_seqk fun K hK => ?_
        | refine AI_reg ?_
        | (refine AS_op (OpR_move rfl ?_); try (simp only [st, List.set_cons_zero, List.set_cons_succ]))
        | (refine AS_op (OpR_assign rfl ?_); try (simp only [st, List.set_cons_zero, List.set_cons_succ]))
        | (refine AS_op (OpR_arith _ rfl rfl rfl (by omega) (by omega) ?_); try (simp only [st, List.set_cons_zero, List.set_cons_succ]))
        | (refine AS_op (OpR_bin rfl rfl rfl ?_); try (simp only [st, List.set_cons_zero, List.set_cons_succ]))
        | (refine AS_op (OpR_not rfl ?_); try (simp only [st, List.set_cons_zero, List.set_cons_succ]))
        | (refine AS_op (OpR_extract rfl rfl ?_); try (simp only [st, List.set_cons_zero, List.set_cons_succ]))
        | (refine AS_op (OpR_pick_b rfl rfl rfl ?_); try (simp only [st, List.set_cons_zero, List.set_cons_succ]))
        | (refine AS_op (OpR_makeFunc rfl ?_); try (simp only [st, List.set_cons_zero, List.set_cons_succ]))
        | (refine AS_op (OpR_beq Try.underlying4 rfl rfl _ (.inr ⟨rfl, rfl⟩) ?_); try (simp only [st, List.set_cons_zero, List.set_cons_succ]))
        | (refine AS_op (OpR_beq Try.underlying4 rfl rfl _ (.inl ⟨rfl, rfl⟩) ?_); try (simp only [st, List.set_cons_zero, List.set_cons_succ]))
        | (refine AS_nil ?_; try simp only [AThen, ABlk, reduceIte, reduceCtorEq])
        | (refine hK _ _ ?_; try (first | clear hK K | clear IH hK K))
        | ((first | clear hK K | clear IH hK K); refine hK _ _ ?_; try (first | clear hK K | clear IH hK K))
        | ((first | clear hK K | clear IH hK K); (first | clear hK K | clear IH hK K); refine hK _ _ ?_; try (first | clear hK K | clear IH hK K))
        | ((first | clear hK K | clear IH hK K); (first | clear hK K | clear IH hK K); (first | clear hK K | clear IH hK K); refine hK _ _ ?_; try (first | clear hK K | clear IH hK K))
        | (refine AI_skip ?_; try simp only [AThen, ABlk, reduceIte, reduceCtorEq])
        | (refine AI_exit ?_; try simp only [AThen, ABlk, reduceIte, reduceCtorEq])
        | refine AI_cond_t rfl (by first | assumption | with_reducible rfl) ?_
        | refine AI_cond_f rfl (by first | assumption | with_reducible rfl) ?_
        | (refine AS_op (OpR_pick_t rfl (by first | assumption | with_reducible rfl) rfl ?_); try (simp only [st, List.set_cons_zero, List.set_cons_succ]))
        | (refine AS_op (OpR_pick_f rfl (by first | assumption | with_reducible rfl) rfl ?_); try (simp only [st, List.set_cons_zero, List.set_cons_succ]))
        | refine AS_gy rfl (by first | assumption | with_reducible rfl) ?_
        | (refine AS_gtn rfl (by first | assumption | with_reducible rfl) ?_)
        | (refine AS_gfn rfl (by first | assumption | with_reducible rfl) ?_)
        | refine AI_block (AI_loop ?_)
        | refine AI_block ?_
        | refine AI_ret ⟨_, rfl, ?_⟩
    first | refine AS_gtnH rfl (by simp; omega) ?_ | refine AS_gfnH rfl (by simp; omega) ?_ | refine AI_cond_fH rfl (by simp; omega) ?_
    intro hg
    repeat
      first
        | refine AI_seqk fun K hK => ?_
        | refine AI_reg ?_
        | (refine AS_op (OpR_move rfl ?_); try (simp only [st, List.set_cons_zero, List.set_cons_succ]))
        | (refine AS_op (OpR_assign rfl ?_); try (simp only [st, List.set_cons_zero, List.set_cons_succ]))
        | (refine AS_op (OpR_arith _ rfl rfl rfl (by omega) (by omega) ?_); try (simp only [st, List.set_cons_zero, List.set_cons_succ]))
        | (refine AS_op (OpR_bin rfl rfl rfl ?_); try (simp only [st, List.set_cons_zero, List.set_cons_succ]))
        | (refine AS_op (OpR_not rfl ?_); try (simp only [st, List.set_cons_zero, List.set_cons_succ]))
        | (refine AS_op (OpR_extract rfl rfl ?_); try (simp only [st, List.set_cons_zero, List.set_cons_succ]))
        | (refine AS_op (OpR_pick_b rfl rfl rfl ?_); try (simp only [st, List.set_cons_zero, List.set_cons_succ]))
        | (refine AS_op (OpR_makeFunc rfl ?_); try (simp only [st, List.set_cons_zero, List.set_cons_succ]))
        | (refine AS_op (OpR_beq Try.underlying4 rfl rfl _ (.inr ⟨rfl, rfl⟩) ?_); try (simp only [st, List.set_cons_zero, List.set_cons_succ]))
        | (refine AS_op (OpR_beq Try.underlying4 rfl rfl _ (.inl ⟨rfl, rfl⟩) ?_); try (simp only [st, List.set_cons_zero, List.set_cons_succ]))
        | (refine AS_nil ?_; try simp only [AThen, ABlk, reduceIte, reduceCtorEq])
        | (refine hK _ _ ?_; try (first | clear hK K | clear IH hK K))
        | ((first | clear hK K | clear IH hK K); refine hK _ _ ?_; try (first | clear hK K | clear IH hK K))
        | ((first | clear hK K | clear IH hK K); (first | clear hK K | clear IH hK K); refine hK _ _ ?_; try (first | clear hK K | clear IH hK K))
        | ((first | clear hK K | clear IH hK K); (first | clear hK K | clear IH hK K); (first | clear hK K | clear IH hK K); refine hK _ _ ?_; try (first | clear hK K | clear IH hK K))
        | (refine AI_skip ?_; try simp only [AThen, ABlk, reduceIte, reduceCtorEq])
        | (refine AI_exit ?_; try simp only [AThen, ABlk, reduceIte, reduceCtorEq])
        | refine AI_cond_t rfl (by first | assumption | with_reducible rfl) ?_
        | refine AI_cond_f rfl (by first | assumption | with_reducible rfl) ?_
        | (refine AS_op (OpR_pick_t rfl (by first | assumption | with_reducible rfl) rfl ?_); try (simp only [st, List.set_cons_zero, List.set_cons_succ]))
        | (refine AS_op (OpR_pick_f rfl (by first | assumption | with_reducible rfl) rfl ?_); try (simp only [st, List.set_cons_zero, List.set_cons_succ]))
        | refine AS_gy rfl (by first | assumption | with_reducible rfl) ?_
        | (refine AS_gtn rfl (by first | assumption | with_reducible rfl) ?_)
        | (refine AS_gfn rfl (by first | assumption | with_reducible rfl) ?_)
        | refine AI_block (AI_loop ?_)
        | refine AI_block ?_
        | refine AI_ret ⟨_, rfl, ?_⟩
    refine AIL_ind (fun (n : Nat) a h' => ∃ (e y : Int) (x8 x9 x10 x11 x12 x13 x14 x15 x16 x17 x18 x19 x20 x21 x22 x23 x24 x25 x26 x27 x28 x29 x30 x31 : AV), a = [.i .i64 x, .i .i64 m, un, un, .i .i64 0, .b false, .i .i64 y, .i .i64 e, x8, x9, x10, x11, x12, x13, x14, x15, x16, x17, x18, x19, x20, x21, x22, x23, x24, x25, x26, x27, x28, x29, x30, x31] ∧ 0 ≤ y ∧ y ≤ m - 1 ∧ 1 ≤ e ∧ e + n = m + 1 ∧ h' = h ∧ ordM x m = ordL x m n e y)
      ?_ m.toNat _ _ ⟨1, x, _, _, _, _, _, _, _, _, _, _, _, _, _, _, _, _, _, _, _, _, _, _, _, _, rfl, by omega, by omega, by omega, by omega, rfl, by unfold ordM; rw [if_pos hv]⟩
    rintro n a h' ⟨e, y, x8, x9, x10, x11, x12, x13, x14, x15, x16, x17, x18, x19, x20, x21, x22, x23, x24, x25, x26, x27, x28, x29, x30, x31, rfl, hy0, hy1, he, hn, rfl, ho⟩ IH
    have hb := mul_bd hy0 (show y ≤ m by omega) hv.2.2.1 (show x ≤ m by omega) hv.2.1
    have ht := tmod_bd hb.1 hv.1
    repeat
      first
        | refine AI_seqk fun K hK => ?_
        | refine AI_reg ?_
        | (refine AS_op (OpR_move rfl ?_); try (simp only [st, List.set_cons_zero, List.set_cons_succ]))
        | (refine AS_op (OpR_assign rfl ?_); try (simp only [st, List.set_cons_zero, List.set_cons_succ]))
        | (refine AS_op (OpR_arith _ rfl rfl rfl (by omega) (by omega) ?_); try (simp only [st, List.set_cons_zero, List.set_cons_succ]))
        | (refine AS_op (OpR_bin rfl rfl rfl ?_); try (simp only [st, List.set_cons_zero, List.set_cons_succ]))
        | (refine AS_op (OpR_not rfl ?_); try (simp only [st, List.set_cons_zero, List.set_cons_succ]))
        | (refine AS_op (OpR_extract rfl rfl ?_); try (simp only [st, List.set_cons_zero, List.set_cons_succ]))
        | (refine AS_op (OpR_pick_b rfl rfl rfl ?_); try (simp only [st, List.set_cons_zero, List.set_cons_succ]))
        | (refine AS_op (OpR_makeFunc rfl ?_); try (simp only [st, List.set_cons_zero, List.set_cons_succ]))
        | (refine AS_op (OpR_beq Try.underlying4 rfl rfl _ (.inr ⟨rfl, rfl⟩) ?_); try (simp only [st, List.set_cons_zero, List.set_cons_succ]))
        | (refine AS_op (OpR_beq Try.underlying4 rfl rfl _ (.inl ⟨rfl, rfl⟩) ?_); try (simp only [st, List.set_cons_zero, List.set_cons_succ]))
        | (refine AS_nil ?_; try simp only [AThen, ABlk, reduceIte, reduceCtorEq])
        | (refine hK _ _ ?_; try (first | clear hK K | clear IH hK K))
        | ((first | clear hK K | clear IH hK K); refine hK _ _ ?_; try (first | clear hK K | clear IH hK K))
        | ((first | clear hK K | clear IH hK K); (first | clear hK K | clear IH hK K); refine hK _ _ ?_; try (first | clear hK K | clear IH hK K))
        | ((first | clear hK K | clear IH hK K); (first | clear hK K | clear IH hK K); (first | clear hK K | clear IH hK K); refine hK _ _ ?_; try (first | clear hK K | clear IH hK K))
        | (refine AI_skip ?_; try simp only [AThen, ABlk, reduceIte, reduceCtorEq])
        | (refine AI_exit ?_; try simp only [AThen, ABlk, reduceIte, reduceCtorEq])
        | refine AI_cond_t rfl (by first | assumption | with_reducible rfl) ?_
        | refine AI_cond_f rfl (by first | assumption | with_reducible rfl) ?_
        | (refine AS_op (OpR_pick_t rfl (by first | assumption | with_reducible rfl) rfl ?_); try (simp only [st, List.set_cons_zero, List.set_cons_succ]))
        | (refine AS_op (OpR_pick_f rfl (by first | assumption | with_reducible rfl) rfl ?_); try (simp only [st, List.set_cons_zero, List.set_cons_succ]))
        | refine AS_gy rfl (by first | assumption | with_reducible rfl) ?_
        | (refine AS_gtn rfl (by first | assumption | with_reducible rfl) ?_)
        | (refine AS_gfn rfl (by first | assumption | with_reducible rfl) ?_)
        | refine AI_block (AI_loop ?_)
        | refine AI_block ?_
        | refine AI_ret ⟨_, rfl, ?_⟩
    (first | refine AS_gt rfl ?_ ?_ | refine AS_gf rfl ?_ ?_ | refine AI_cond rfl ?_ ?_) <;> intro hc <;> have hc' := hc <;> (try simp only [decide_eq_true_eq, decide_eq_false_iff_not, Bool.not_eq_true', Bool.not_eq_false', Bool.not_eq_true, Bool.not_eq_false, beq_iff_eq, bne_iff_ne, beq_eq_false_iff_ne, bne_eq_false_iff_eq, Int.not_lt, Int.not_le, ge_iff_le, gt_iff_lt, not_and, ne_eq, Decidable.not_not] at hc')
    all_goals
      repeat
        first
          | refine AI_seqk fun K hK => ?_
          | refine AI_reg ?_
          | (refine AS_op (OpR_move rfl ?_); try (simp only [st, List.set_cons_zero, List.set_cons_succ]))
          | (refine AS_op (OpR_assign rfl ?_); try (simp only [st, List.set_cons_zero, List.set_cons_succ]))
          | (refine AS_op (OpR_arith _ rfl rfl rfl (by omega) (by omega) ?_); try (simp only [st, List.set_cons_zero, List.set_cons_succ]))
          | (refine AS_op (OpR_bin rfl rfl rfl ?_); try (simp only [st, List.set_cons_zero, List.set_cons_succ]))
          | (refine AS_op (OpR_not rfl ?_); try (simp only [st, List.set_cons_zero, List.set_cons_succ]))
          | (refine AS_op (OpR_extract rfl rfl ?_); try (simp only [st, List.set_cons_zero, List.set_cons_succ]))
          | (refine AS_op (OpR_pick_b rfl rfl rfl ?_); try (simp only [st, List.set_cons_zero, List.set_cons_succ]))
          | (refine AS_op (OpR_makeFunc rfl ?_); try (simp only [st, List.set_cons_zero, List.set_cons_succ]))
          | (refine AS_op (OpR_beq Try.underlying4 rfl rfl _ (.inr ⟨rfl, rfl⟩) ?_); try (simp only [st, List.set_cons_zero, List.set_cons_succ]))
          | (refine AS_op (OpR_beq Try.underlying4 rfl rfl _ (.inl ⟨rfl, rfl⟩) ?_); try (simp only [st, List.set_cons_zero, List.set_cons_succ]))
          | (refine AS_nil ?_; try simp only [AThen, ABlk, reduceIte, reduceCtorEq])
          | (refine hK _ _ ?_; try (first | clear hK K | clear IH hK K))
          | ((first | clear hK K | clear IH hK K); refine hK _ _ ?_; try (first | clear hK K | clear IH hK K))
          | ((first | clear hK K | clear IH hK K); (first | clear hK K | clear IH hK K); refine hK _ _ ?_; try (first | clear hK K | clear IH hK K))
          | ((first | clear hK K | clear IH hK K); (first | clear hK K | clear IH hK K); (first | clear hK K | clear IH hK K); refine hK _ _ ?_; try (first | clear hK K | clear IH hK K))
          | (refine AI_skip ?_; try simp only [AThen, ABlk, reduceIte, reduceCtorEq])
          | (refine AI_exit ?_; try simp only [AThen, ABlk, reduceIte, reduceCtorEq])
          | refine AI_cond_t rfl (by first | assumption | with_reducible rfl) ?_
          | refine AI_cond_f rfl (by first | assumption | with_reducible rfl) ?_
          | (refine AS_op (OpR_pick_t rfl (by first | assumption | with_reducible rfl) rfl ?_); try (simp only [st, List.set_cons_zero, List.set_cons_succ]))
          | (refine AS_op (OpR_pick_f rfl (by first | assumption | with_reducible rfl) rfl ?_); try (simp only [st, List.set_cons_zero, List.set_cons_succ]))
          | refine AS_gy rfl (by first | assumption | with_reducible rfl) ?_
          | (refine AS_gtn rfl (by first | assumption | with_reducible rfl) ?_)
          | (refine AS_gfn rfl (by first | assumption | with_reducible rfl) ?_)
          | refine AI_block (AI_loop ?_)
          | refine AI_block ?_
          | refine AI_ret ⟨_, rfl, ?_⟩
    · obtain ⟨n, rfl⟩ : ∃ q, n = q + 1 := ⟨n - 1, by omega⟩
      rw [ordL] at ho
      (first | refine AS_gt rfl ?_ ?_ | refine AS_gf rfl ?_ ?_ | refine AI_cond rfl ?_ ?_) <;> intro hc <;> have hc' := hc <;> (try simp only [decide_eq_true_eq, decide_eq_false_iff_not, Bool.not_eq_true', Bool.not_eq_false', Bool.not_eq_true, Bool.not_eq_false, beq_iff_eq, bne_iff_ne, beq_eq_false_iff_ne, bne_eq_false_iff_eq, Int.not_lt, Int.not_le, ge_iff_le, gt_iff_lt, not_and, ne_eq, Decidable.not_not] at hc')
      all_goals
        repeat
          first
            | refine AI_seqk fun K hK => ?_
            | refine AI_reg ?_
            | (refine AS_op (OpR_move rfl ?_); try (simp only [st, List.set_cons_zero, List.set_cons_succ]))
            | (refine AS_op (OpR_assign rfl ?_); try (simp only [st, List.set_cons_zero, List.set_cons_succ]))
            | (refine AS_op (OpR_arith _ rfl rfl rfl (by omega) (by omega) ?_); try (simp only [st, List.set_cons_zero, List.set_cons_succ]))
            | (refine AS_op (OpR_bin rfl rfl rfl ?_); try (simp only [st, List.set_cons_zero, List.set_cons_succ]))
            | (refine AS_op (OpR_not rfl ?_); try (simp only [st, List.set_cons_zero, List.set_cons_succ]))
            | (refine AS_op (OpR_extract rfl rfl ?_); try (simp only [st, List.set_cons_zero, List.set_cons_succ]))
            | (refine AS_op (OpR_pick_b rfl rfl rfl ?_); try (simp only [st, List.set_cons_zero, List.set_cons_succ]))
            | (refine AS_op (OpR_makeFunc rfl ?_); try (simp only [st, List.set_cons_zero, List.set_cons_succ]))
            | (refine AS_op (OpR_beq Try.underlying4 rfl rfl _ (.inr ⟨rfl, rfl⟩) ?_); try (simp only [st, List.set_cons_zero, List.set_cons_succ]))
            | (refine AS_op (OpR_beq Try.underlying4 rfl rfl _ (.inl ⟨rfl, rfl⟩) ?_); try (simp only [st, List.set_cons_zero, List.set_cons_succ]))
            | (refine AS_nil ?_; try simp only [AThen, ABlk, reduceIte, reduceCtorEq])
            | (refine hK _ _ ?_; try (first | clear hK K | clear IH hK K))
            | ((first | clear hK K | clear IH hK K); refine hK _ _ ?_; try (first | clear hK K | clear IH hK K))
            | ((first | clear hK K | clear IH hK K); (first | clear hK K | clear IH hK K); refine hK _ _ ?_; try (first | clear hK K | clear IH hK K))
            | ((first | clear hK K | clear IH hK K); (first | clear hK K | clear IH hK K); (first | clear hK K | clear IH hK K); refine hK _ _ ?_; try (first | clear hK K | clear IH hK K))
            | (refine AI_skip ?_; try simp only [AThen, ABlk, reduceIte, reduceCtorEq])
            | (refine AI_exit ?_; try simp only [AThen, ABlk, reduceIte, reduceCtorEq])
            | refine AI_cond_t rfl (by first | assumption | with_reducible rfl) ?_
            | refine AI_cond_f rfl (by first | assumption | with_reducible rfl) ?_
            | (refine AS_op (OpR_pick_t rfl (by first | assumption | with_reducible rfl) rfl ?_); try (simp only [st, List.set_cons_zero, List.set_cons_succ]))
            | (refine AS_op (OpR_pick_f rfl (by first | assumption | with_reducible rfl) rfl ?_); try (simp only [st, List.set_cons_zero, List.set_cons_succ]))
            | refine AS_gy rfl (by first | assumption | with_reducible rfl) ?_
            | (refine AS_gtn rfl (by first | assumption | with_reducible rfl) ?_)
            | (refine AS_gfn rfl (by first | assumption | with_reducible rfl) ?_)
            | refine AI_block (AI_loop ?_)
            | refine AI_block ?_
            | refine AI_ret ⟨_, rfl, ?_⟩
      · rw [if_pos hc'] at ho
        rw [ho]
        exact ⟨rfl, .refl _⟩
      · refine AS_op (OpR_rem rfl rfl (by omega) ?_)
        try (simp only [st, List.set_cons_zero, List.set_cons_succ])
        repeat
          first
            | refine AI_seqk fun K hK => ?_
            | refine AI_reg ?_
            | (refine AS_op (OpR_move rfl ?_); try (simp only [st, List.set_cons_zero, List.set_cons_succ]))
            | (refine AS_op (OpR_assign rfl ?_); try (simp only [st, List.set_cons_zero, List.set_cons_succ]))
            | (refine AS_op (OpR_arith _ rfl rfl rfl (by omega) (by omega) ?_); try (simp only [st, List.set_cons_zero, List.set_cons_succ]))
            | (refine AS_op (OpR_bin rfl rfl rfl ?_); try (simp only [st, List.set_cons_zero, List.set_cons_succ]))
            | (refine AS_op (OpR_not rfl ?_); try (simp only [st, List.set_cons_zero, List.set_cons_succ]))
            | (refine AS_op (OpR_extract rfl rfl ?_); try (simp only [st, List.set_cons_zero, List.set_cons_succ]))
            | (refine AS_op (OpR_pick_b rfl rfl rfl ?_); try (simp only [st, List.set_cons_zero, List.set_cons_succ]))
            | (refine AS_op (OpR_makeFunc rfl ?_); try (simp only [st, List.set_cons_zero, List.set_cons_succ]))
            | (refine AS_op (OpR_beq Try.underlying4 rfl rfl _ (.inr ⟨rfl, rfl⟩) ?_); try (simp only [st, List.set_cons_zero, List.set_cons_succ]))
            | (refine AS_op (OpR_beq Try.underlying4 rfl rfl _ (.inl ⟨rfl, rfl⟩) ?_); try (simp only [st, List.set_cons_zero, List.set_cons_succ]))
            | (refine AS_nil ?_; try simp only [AThen, ABlk, reduceIte, reduceCtorEq])
            | (refine hK _ _ ?_; try (first | clear hK K | clear IH hK K))
            | ((first | clear hK K | clear IH hK K); refine hK _ _ ?_; try (first | clear hK K | clear IH hK K))
            | ((first | clear hK K | clear IH hK K); (first | clear hK K | clear IH hK K); refine hK _ _ ?_; try (first | clear hK K | clear IH hK K))
            | ((first | clear hK K | clear IH hK K); (first | clear hK K | clear IH hK K); (first | clear hK K | clear IH hK K); refine hK _ _ ?_; try (first | clear hK K | clear IH hK K))
            | (refine AI_skip ?_; try simp only [AThen, ABlk, reduceIte, reduceCtorEq])
            | (refine AI_exit ?_; try simp only [AThen, ABlk, reduceIte, reduceCtorEq])
            | refine AI_cond_t rfl (by first | assumption | with_reducible rfl) ?_
            | refine AI_cond_f rfl (by first | assumption | with_reducible rfl) ?_
            | (refine AS_op (OpR_pick_t rfl (by first | assumption | with_reducible rfl) rfl ?_); try (simp only [st, List.set_cons_zero, List.set_cons_succ]))
            | (refine AS_op (OpR_pick_f rfl (by first | assumption | with_reducible rfl) rfl ?_); try (simp only [st, List.set_cons_zero, List.set_cons_succ]))
            | refine AS_gy rfl (by first | assumption | with_reducible rfl) ?_
            | (refine AS_gtn rfl (by first | assumption | with_reducible rfl) ?_)
            | (refine AS_gfn rfl (by first | assumption | with_reducible rfl) ?_)
            | refine AI_block (AI_loop ?_)
            | refine AI_block ?_
            | refine AI_ret ⟨_, rfl, ?_⟩
        rw [if_neg hc'] at ho
        exact IH n _ _ (by omega) ⟨_, _, _, _, _, _, _, _, _, _, _, _, _, _, _, _, _, _, _, _, _, _, _, _, _, _, rfl, ht.1, ht.2, by omega, by omega, rfl, ho⟩
    · have : n = 0 := by omega
      subst this
      rw [ho]
      exact ⟨rfl, .refl _⟩
  · have hfin : ordM x m = (0, false) := by unfold ordM; rw [if_neg hv]
    (first | refine AS_gt rfl ?_ ?_ | refine AS_gf rfl ?_ ?_ | refine AI_cond rfl ?_ ?_) <;> intro hc <;> have hc' := hc <;> (try simp only [decide_eq_true_eq, decide_eq_false_iff_not, Bool.not_eq_true', Bool.not_eq_false', Bool.not_eq_true, Bool.not_eq_false, beq_iff_eq, bne_iff_ne, beq_eq_false_iff_ne, bne_eq_false_iff_eq, Int.not_lt, Int.not_le, ge_iff_le, gt_iff_lt, not_and, ne_eq, Decidable.not_not] at hc')
    all_goals
      repeat
        first
          | refine AI_seqk fun K hK => ?_
          | refine AI_reg ?_
          | (refine AS_op (OpR_move rfl ?_); try (simp only [st, List.set_cons_zero, List.set_cons_succ]))
          | (refine AS_op (OpR_assign rfl ?_); try (simp only [st, List.set_cons_zero, List.set_cons_succ]))
          | (refine AS_op (OpR_arith _ rfl rfl rfl (by omega) (by omega) ?_); try (simp only [st, List.set_cons_zero, List.set_cons_succ]))
          | (refine AS_op (OpR_bin rfl rfl rfl ?_); try (simp only [st, List.set_cons_zero, List.set_cons_succ]))
          | (refine AS_op (OpR_not rfl ?_); try (simp only [st, List.set_cons_zero, List.set_cons_succ]))
          | (refine AS_op (OpR_extract rfl rfl ?_); try (simp only [st, List.set_cons_zero, List.set_cons_succ]))
          | (refine AS_op (OpR_pick_b rfl rfl rfl ?_); try (simp only [st, List.set_cons_zero, List.set_cons_succ]))
          | (refine AS_op (OpR_makeFunc rfl ?_); try (simp only [st, List.set_cons_zero, List.set_cons_succ]))
          | (refine AS_op (OpR_beq Try.underlying4 rfl rfl _ (.inr ⟨rfl, rfl⟩) ?_); try (simp only [st, List.set_cons_zero, List.set_cons_succ]))
          | (refine AS_op (OpR_beq Try.underlying4 rfl rfl _ (.inl ⟨rfl, rfl⟩) ?_); try (simp only [st, List.set_cons_zero, List.set_cons_succ]))
          | (refine AS_nil ?_; try simp only [AThen, ABlk, reduceIte, reduceCtorEq])
          | (refine hK _ _ ?_; try (first | clear hK K | clear IH hK K))
          | ((first | clear hK K | clear IH hK K); refine hK _ _ ?_; try (first | clear hK K | clear IH hK K))
          | ((first | clear hK K | clear IH hK K); (first | clear hK K | clear IH hK K); refine hK _ _ ?_; try (first | clear hK K | clear IH hK K))
          | ((first | clear hK K | clear IH hK K); (first | clear hK K | clear IH hK K); (first | clear hK K | clear IH hK K); refine hK _ _ ?_; try (first | clear hK K | clear IH hK K))
          | (refine AI_skip ?_; try simp only [AThen, ABlk, reduceIte, reduceCtorEq])
          | (refine AI_exit ?_; try simp only [AThen, ABlk, reduceIte, reduceCtorEq])
          | refine AI_cond_t rfl (by first | assumption | with_reducible rfl) ?_
          | refine AI_cond_f rfl (by first | assumption | with_reducible rfl) ?_
          | (refine AS_op (OpR_pick_t rfl (by first | assumption | with_reducible rfl) rfl ?_); try (simp only [st, List.set_cons_zero, List.set_cons_succ]))
          | (refine AS_op (OpR_pick_f rfl (by first | assumption | with_reducible rfl) rfl ?_); try (simp only [st, List.set_cons_zero, List.set_cons_succ]))
          | refine AS_gy rfl (by first | assumption | with_reducible rfl) ?_
          | (refine AS_gtn rfl (by first | assumption | with_reducible rfl) ?_)
          | (refine AS_gfn rfl (by first | assumption | with_reducible rfl) ?_)
          | refine AI_block (AI_loop ?_)
          | refine AI_block ?_
          | refine AI_ret ⟨_, rfl, ?_⟩
    · refine AS_op (OpR_call rfl rfl (l1In_ac _ _ _ _) ?_)
      rintro _ _ wf2 ⟨rfl, rfl⟩
      try (simp only [st, List.set_cons_zero, List.set_cons_succ])
      repeat
        first
          | refine AI_seqk fun K hK => ?_
          | refine AI_reg ?_
          | (refine AS_op (OpR_move rfl ?_); try (simp only [st, List.set_cons_zero, List.set_cons_succ]))
          | (refine AS_op (OpR_assign rfl ?_); try (simp only [st, List.set_cons_zero, List.set_cons_succ]))
          | (refine AS_op (OpR_arith _ rfl rfl rfl (by omega) (by omega) ?_); try (simp only [st, List.set_cons_zero, List.set_cons_succ]))
          | (refine AS_op (OpR_bin rfl rfl rfl ?_); try (simp only [st, List.set_cons_zero, List.set_cons_succ]))
          | (refine AS_op (OpR_not rfl ?_); try (simp only [st, List.set_cons_zero, List.set_cons_succ]))
          | (refine AS_op (OpR_extract rfl rfl ?_); try (simp only [st, List.set_cons_zero, List.set_cons_succ]))
          | (refine AS_op (OpR_pick_b rfl rfl rfl ?_); try (simp only [st, List.set_cons_zero, List.set_cons_succ]))
          | (refine AS_op (OpR_makeFunc rfl ?_); try (simp only [st, List.set_cons_zero, List.set_cons_succ]))
          | (refine AS_op (OpR_beq Try.underlying4 rfl rfl _ (.inr ⟨rfl, rfl⟩) ?_); try (simp only [st, List.set_cons_zero, List.set_cons_succ]))
          | (refine AS_op (OpR_beq Try.underlying4 rfl rfl _ (.inl ⟨rfl, rfl⟩) ?_); try (simp only [st, List.set_cons_zero, List.set_cons_succ]))
          | (refine AS_nil ?_; try simp only [AThen, ABlk, reduceIte, reduceCtorEq])
          | (refine hK _ _ ?_; try (first | clear hK K | clear IH hK K))
          | ((first | clear hK K | clear IH hK K); refine hK _ _ ?_; try (first | clear hK K | clear IH hK K))
          | ((first | clear hK K | clear IH hK K); (first | clear hK K | clear IH hK K); refine hK _ _ ?_; try (first | clear hK K | clear IH hK K))
          | ((first | clear hK K | clear IH hK K); (first | clear hK K | clear IH hK K); (first | clear hK K | clear IH hK K); refine hK _ _ ?_; try (first | clear hK K | clear IH hK K))
          | (refine AI_skip ?_; try simp only [AThen, ABlk, reduceIte, reduceCtorEq])
          | (refine AI_exit ?_; try simp only [AThen, ABlk, reduceIte, reduceCtorEq])
          | refine AI_cond_t rfl (by first | assumption | with_reducible rfl) ?_
          | refine AI_cond_f rfl (by first | assumption | with_reducible rfl) ?_
          | (refine AS_op (OpR_pick_t rfl (by first | assumption | with_reducible rfl) rfl ?_); try (simp only [st, List.set_cons_zero, List.set_cons_succ]))
          | (refine AS_op (OpR_pick_f rfl (by first | assumption | with_reducible rfl) rfl ?_); try (simp only [st, List.set_cons_zero, List.set_cons_succ]))
          | refine AS_gy rfl (by first | assumption | with_reducible rfl) ?_
          | (refine AS_gtn rfl (by first | assumption | with_reducible rfl) ?_)
          | (refine AS_gfn rfl (by first | assumption | with_reducible rfl) ?_)
          | refine AI_block (AI_loop ?_)
          | refine AI_block ?_
          | refine AI_ret ⟨_, rfl, ?_⟩
      first | refine AS_gyH rfl (by simp; omega) ?_ | refine AI_cond_tH rfl (by simp; omega) ?_
      intro hg
      repeat
        first
          | refine AI_seqk fun K hK => ?_
          | refine AI_reg ?_
          | (refine AS_op (OpR_move rfl ?_); try (simp only [st, List.set_cons_zero, List.set_cons_succ]))
          | (refine AS_op (OpR_assign rfl ?_); try (simp only [st, List.set_cons_zero, List.set_cons_succ]))
          | (refine AS_op (OpR_arith _ rfl rfl rfl (by omega) (by omega) ?_); try (simp only [st, List.set_cons_zero, List.set_cons_succ]))
          | (refine AS_op (OpR_bin rfl rfl rfl ?_); try (simp only [st, List.set_cons_zero, List.set_cons_succ]))
          | (refine AS_op (OpR_not rfl ?_); try (simp only [st, List.set_cons_zero, List.set_cons_succ]))
          | (refine AS_op (OpR_extract rfl rfl ?_); try (simp only [st, List.set_cons_zero, List.set_cons_succ]))
          | (refine AS_op (OpR_pick_b rfl rfl rfl ?_); try (simp only [st, List.set_cons_zero, List.set_cons_succ]))
          | (refine AS_op (OpR_makeFunc rfl ?_); try (simp only [st, List.set_cons_zero, List.set_cons_succ]))
          | (refine AS_op (OpR_beq Try.underlying4 rfl rfl _ (.inr ⟨rfl, rfl⟩) ?_); try (simp only [st, List.set_cons_zero, List.set_cons_succ]))
          | (refine AS_op (OpR_beq Try.underlying4 rfl rfl _ (.inl ⟨rfl, rfl⟩) ?_); try (simp only [st, List.set_cons_zero, List.set_cons_succ]))
          | (refine AS_nil ?_; try simp only [AThen, ABlk, reduceIte, reduceCtorEq])
          | (refine hK _ _ ?_; try (first | clear hK K | clear IH hK K))
          | ((first | clear hK K | clear IH hK K); refine hK _ _ ?_; try (first | clear hK K | clear IH hK K))
          | ((first | clear hK K | clear IH hK K); (first | clear hK K | clear IH hK K); refine hK _ _ ?_; try (first | clear hK K | clear IH hK K))
          | ((first | clear hK K | clear IH hK K); (first | clear hK K | clear IH hK K); (first | clear hK K | clear IH hK K); refine hK _ _ ?_; try (first | clear hK K | clear IH hK K))
          | (refine AI_skip ?_; try simp only [AThen, ABlk, reduceIte, reduceCtorEq])
          | (refine AI_exit ?_; try simp only [AThen, ABlk, reduceIte, reduceCtorEq])
          | refine AI_cond_t rfl (by first | assumption | with_reducible rfl) ?_
          | refine AI_cond_f rfl (by first | assumption | with_reducible rfl) ?_
          | (refine AS_op (OpR_pick_t rfl (by first | assumption | with_reducible rfl) rfl ?_); try (simp only [st, List.set_cons_zero, List.set_cons_succ]))
          | (refine AS_op (OpR_pick_f rfl (by first | assumption | with_reducible rfl) rfl ?_); try (simp only [st, List.set_cons_zero, List.set_cons_succ]))
          | refine AS_gy rfl (by first | assumption | with_reducible rfl) ?_
          | (refine AS_gtn rfl (by first | assumption | with_reducible rfl) ?_)
          | (refine AS_gfn rfl (by first | assumption | with_reducible rfl) ?_)
          | refine AI_block (AI_loop ?_)
          | refine AI_block ?_
          | refine AI_ret ⟨_, rfl, ?_⟩
      rw [hfin]
      exact ⟨rfl, .refl _⟩
    · rw [hfin]
      exact ⟨rfl, .refl _⟩

theorem implOrder_ac (x m : Int) (h : AH) : AC Try.prog 13 [.i .i64 x, .i .i64 m] h (fun r h' => r = .tup [.i .i64 (ordM x m).1, .b (ordM x m).2] ∧ h.le h') := by
  refine e13 _ _ fun wf => ?_
  unfold c13
  repeat
    first
      | refine AI_seqk fun K hK => ?_
      | refine AI_reg ?_
      | (refine AS_op (OpR_move rfl ?_); try (simp only [st, List.set_cons_zero, List.set_cons_succ]))
      | (refine AS_op (OpR_assign rfl ?_); try (simp only [st, List.set_cons_zero, List.set_cons_succ]))
      | (refine AS_op (OpR_arith _ rfl rfl rfl (by omega) (by omega) ?_); try (simp only [st, List.set_cons_zero, List.set_cons_succ]))
      | (refine AS_op (OpR_bin rfl rfl rfl ?_); try (simp only [st, List.set_cons_zero, List.set_cons_succ]))
      | (refine AS_op (OpR_not rfl ?_); try (simp only [st, List.set_cons_zero, List.set_cons_succ]))
      | (refine AS_op (OpR_extract rfl rfl ?_); try (simp only [st, List.set_cons_zero, List.set_cons_succ]))
      | (refine AS_op (OpR_pick_b rfl rfl rfl ?_); try (simp only [st, List.set_cons_zero, List.set_cons_succ]))
      | (refine AS_op (OpR_makeFunc rfl ?_); try (simp only [st, List.set_cons_zero, List.set_cons_succ]))
      | (refine AS_op (OpR_beq Try.underlying4 rfl rfl _ (.inr ⟨rfl, rfl⟩) ?_); try (simp only [st, List.set_cons_zero, List.set_cons_succ]))
      | (refine AS_op (OpR_beq Try.underlying4 rfl rfl _ (.inl ⟨rfl, rfl⟩) ?_); try (simp only [st, List.set_cons_zero, List.set_cons_succ]))
      | (refine AS_nil ?_; try simp only [AThen, ABlk, reduceIte, reduceCtorEq])
      | (refine hK _ _ ?_; try (first | clear hK K | clear IH hK K))
      | ((first | clear hK K | clear IH hK K); refine hK _ _ ?_; try (first | clear hK K | clear IH hK K))
      | ((first | clear hK K | clear IH hK K); (first | clear hK K | clear IH hK K); refine hK _ _ ?_; try (first | clear hK K | clear IH hK K))
      | ((first | clear hK K | clear IH hK K); (first | clear hK K | clear IH hK K); (first | clear hK K | clear IH hK K); refine hK _ _ ?_; try (first | clear hK K | clear IH hK K))
      | (refine AI_skip ?_; try simp only [AThen, ABlk, reduceIte, reduceCtorEq])
      | (refine AI_exit ?_; try simp only [AThen, ABlk, reduceIte, reduceCtorEq])
      | refine AI_cond_t rfl (by first | assumption | with_reducible rfl) ?_
      | refine AI_cond_f rfl (by first | assumption | with_reducible rfl) ?_
      | (refine AS_op (OpR_pick_t rfl (by first | assumption | with_reducible rfl) rfl ?_); try (simp only [st, List.set_cons_zero, List.set_cons_succ]))
      | (refine AS_op (OpR_pick_f rfl (by first | assumption | with_reducible rfl) rfl ?_); try (simp only [st, List.set_cons_zero, List.set_cons_succ]))
      | refine AS_gy rfl (by first | assumption | with_reducible rfl) ?_
      | (refine AS_gtn rfl (by first | assumption | with_reducible rfl) ?_)
      | (refine AS_gfn rfl (by first | assumption | with_reducible rfl) ?_)
      | refine AI_block (AI_loop ?_)
      | refine AI_block ?_
      | refine AI_ret ⟨_, rfl, ?_⟩
  refine AS_op (OpR_lit Try.underlying25 sz3 ze3 rfl rfl (by omega) rfl rfl rfl (by omega) ?_)
  try (simp only [st, List.set_cons_zero, List.set_cons_succ])
  repeat
    first
      | refine AI_seqk fun K hK => ?_
      | refine AI_reg ?_
      | (refine AS_op (OpR_move rfl ?_); try (simp only [st, List.set_cons_zero, List.set_cons_succ]))
      | (refine AS_op (OpR_assign rfl ?_); try (simp only [st, List.set_cons_zero, List.set_cons_succ]))
      | (refine AS_op (OpR_arith _ rfl rfl rfl (by omega) (by omega) ?_); try (simp only [st, List.set_cons_zero, List.set_cons_succ]))
      | (refine AS_op (OpR_bin rfl rfl rfl ?_); try (simp only [st, List.set_cons_zero, List.set_cons_succ]))
      | (refine AS_op (OpR_not rfl ?_); try (simp only [st, List.set_cons_zero, List.set_cons_succ]))
      | (refine AS_op (OpR_extract rfl rfl ?_); try (simp only [st, List.set_cons_zero, List.set_cons_succ]))
      | (refine AS_op (OpR_pick_b rfl rfl rfl ?_); try (simp only [st, List.set_cons_zero, List.set_cons_succ]))
      | (refine AS_op (OpR_makeFunc rfl ?_); try (simp only [st, List.set_cons_zero, List.set_cons_succ]))
      | (refine AS_op (OpR_beq Try.underlying4 rfl rfl _ (.inr ⟨rfl, rfl⟩) ?_); try (simp only [st, List.set_cons_zero, List.set_cons_succ]))
      | (refine AS_op (OpR_beq Try.underlying4 rfl rfl _ (.inl ⟨rfl, rfl⟩) ?_); try (simp only [st, List.set_cons_zero, List.set_cons_succ]))
      | (refine AS_nil ?_; try simp only [AThen, ABlk, reduceIte, reduceCtorEq])
      | (refine hK _ _ ?_; try (first | clear hK K | clear IH hK K))
      | ((first | clear hK K | clear IH hK K); refine hK _ _ ?_; try (first | clear hK K | clear IH hK K))
      | ((first | clear hK K | clear IH hK K); (first | clear hK K | clear IH hK K); refine hK _ _ ?_; try (first | clear hK K | clear IH hK K))
      | ((first | clear hK K | clear IH hK K); (first | clear hK K | clear IH hK K); (first | clear hK K | clear IH hK K); refine hK _ _ ?_; try (first | clear hK K | clear IH hK K))
      | (refine AI_skip ?_; try simp only [AThen, ABlk, reduceIte, reduceCtorEq])
      | (refine AI_exit ?_; try simp only [AThen, ABlk, reduceIte, reduceCtorEq])
      | refine AI_cond_t rfl (by first | assumption | with_reducible rfl) ?_
      | refine AI_cond_f rfl (by first | assumption | with_reducible rfl) ?_
      | (refine AS_op (OpR_pick_t rfl (by first | assumption | with_reducible rfl) rfl ?_); try (simp only [st, List.set_cons_zero, List.set_cons_succ]))
      | (refine AS_op (OpR_pick_f rfl (by first | assumption | with_reducible rfl) rfl ?_); try (simp only [st, List.set_cons_zero, List.set_cons_succ]))
      | refine AS_gy rfl (by first | assumption | with_reducible rfl) ?_
      | (refine AS_gtn rfl (by first | assumption | with_reducible rfl) ?_)
      | (refine AS_gfn rfl (by first | assumption | with_reducible rfl) ?_)
      | refine AI_block (AI_loop ?_)
      | refine AI_block ?_
      | refine AI_ret ⟨_, rfl, ?_⟩
  have hO := Own.fresh wf (.refl h) wf (k := 1) (enc := enI) (fun _ => rfl) [x] true (row := [.i .i64 x]) rfl (n := 1) rfl
  refine AS_op (OpR_call rfl rfl (residuesOk_ac [x] _ m _ hO.rd (by simp)) ?_)
  rintro _ h1 wf1 ⟨rfl, hle⟩
  try (simp only [st, List.set_cons_zero, List.set_cons_succ])
  repeat
    first
      | refine AI_seqk fun K hK => ?_
      | refine AI_reg ?_
      | (refine AS_op (OpR_move rfl ?_); try (simp only [st, List.set_cons_zero, List.set_cons_succ]))
      | (refine AS_op (OpR_assign rfl ?_); try (simp only [st, List.set_cons_zero, List.set_cons_succ]))
      | (refine AS_op (OpR_arith _ rfl rfl rfl (by omega) (by omega) ?_); try (simp only [st, List.set_cons_zero, List.set_cons_succ]))
      | (refine AS_op (OpR_bin rfl rfl rfl ?_); try (simp only [st, List.set_cons_zero, List.set_cons_succ]))
      | (refine AS_op (OpR_not rfl ?_); try (simp only [st, List.set_cons_zero, List.set_cons_succ]))
      | (refine AS_op (OpR_extract rfl rfl ?_); try (simp only [st, List.set_cons_zero, List.set_cons_succ]))
      | (refine AS_op (OpR_pick_b rfl rfl rfl ?_); try (simp only [st, List.set_cons_zero, List.set_cons_succ]))
      | (refine AS_op (OpR_makeFunc rfl ?_); try (simp only [st, List.set_cons_zero, List.set_cons_succ]))
      | (refine AS_op (OpR_beq Try.underlying4 rfl rfl _ (.inr ⟨rfl, rfl⟩) ?_); try (simp only [st, List.set_cons_zero, List.set_cons_succ]))
      | (refine AS_op (OpR_beq Try.underlying4 rfl rfl _ (.inl ⟨rfl, rfl⟩) ?_); try (simp only [st, List.set_cons_zero, List.set_cons_succ]))
      | (refine AS_nil ?_; try simp only [AThen, ABlk, reduceIte, reduceCtorEq])
      | (refine hK _ _ ?_; try (first | clear hK K | clear IH hK K))
      | ((first | clear hK K | clear IH hK K); refine hK _ _ ?_; try (first | clear hK K | clear IH hK K))
      | ((first | clear hK K | clear IH hK K); (first | clear hK K | clear IH hK K); refine hK _ _ ?_; try (first | clear hK K | clear IH hK K))
      | ((first | clear hK K | clear IH hK K); (first | clear hK K | clear IH hK K); (first | clear hK K | clear IH hK K); refine hK _ _ ?_; try (first | clear hK K | clear IH hK K))
      | (refine AI_skip ?_; try simp only [AThen, ABlk, reduceIte, reduceCtorEq])
      | (refine AI_exit ?_; try simp only [AThen, ABlk, reduceIte, reduceCtorEq])
      | refine AI_cond_t rfl (by first | assumption | with_reducible rfl) ?_
      | refine AI_cond_f rfl (by first | assumption | with_reducible rfl) ?_
      | (refine AS_op (OpR_pick_t rfl (by first | assumption | with_reducible rfl) rfl ?_); try (simp only [st, List.set_cons_zero, List.set_cons_succ]))
      | (refine AS_op (OpR_pick_f rfl (by first | assumption | with_reducible rfl) rfl ?_); try (simp only [st, List.set_cons_zero, List.set_cons_succ]))
      | refine AS_gy rfl (by first | assumption | with_reducible rfl) ?_
      | (refine AS_gtn rfl (by first | assumption | with_reducible rfl) ?_)
      | (refine AS_gfn rfl (by first | assumption | with_reducible rfl) ?_)
      | refine AI_block (AI_loop ?_)
      | refine AI_block ?_
      | refine AI_ret ⟨_, rfl, ?_⟩
  have hle1 := hO.le.trans hle
  by_cases hv : 2 ≤ m ∧ m ≤ 10000 ∧ 0 ≤ x ∧ x ≤ m - 1
  · first | refine AS_gtnH rfl (by simp; omega) ?_ | refine AS_gfnH rfl (by simp; omega) ?_ | refine AI_cond_fH rfl (by simp; omega) ?_
    intro hg
    repeat
      first
        | refine AI_seqk fun K hK => ?_
        | refine AI_reg ?_
        | (refine AS_op (OpR_move rfl ?_); try (simp only [st, List.set_cons_zero, List.set_cons_succ]))
        | (refine AS_op (OpR_assign rfl ?_); try (simp only [st, List.set_cons_zero, List.set_cons_succ]))
        | (refine AS_op (OpR_arith _ rfl rfl rfl (by omega) (by omega) ?_); try (simp only [st, List.set_cons_zero, List.set_cons_succ]))
        | (refine AS_op (OpR_bin rfl rfl rfl ?_); try (simp only [st, List.set_cons_zero, List.set_cons_succ]))
        | (refine AS_op (OpR_not rfl ?_); try (simp only [st, List.set_cons_zero, List.set_cons_succ]))
        | (refine AS_op (OpR_extract rfl rfl ?_); try (simp only [st, List.set_cons_zero, List.set_cons_succ]))
        | (refine AS_op (OpR_pick_b rfl rfl rfl ?_); try (simp only [st, List.set_cons_zero, List.set_cons_succ]))
        | (refine AS_op (OpR_makeFunc rfl ?_); try (simp only [st, List.set_cons_zero, List.set_cons_succ]))
        | (refine AS_op (OpR_beq Try.underlying4 rfl rfl _ (.inr ⟨rfl, rfl⟩) ?_); try (simp only [st, List.set_cons_zero, List.set_cons_succ]))
        | (refine AS_op (OpR_beq Try.underlying4 rfl rfl _ (.inl ⟨rfl, rfl⟩) ?_); try (simp only [st, List.set_cons_zero, List.set_cons_succ]))
        | (refine AS_nil ?_; try simp only [AThen, ABlk, reduceIte, reduceCtorEq])
        | (refine hK _ _ ?_; try (first | clear hK K | clear IH hK K))
        | ((first | clear hK K | clear IH hK K); refine hK _ _ ?_; try (first | clear hK K | clear IH hK K))
        | ((first | clear hK K | clear IH hK K); (first | clear hK K | clear IH hK K); refine hK _ _ ?_; try (first | clear hK K | clear IH hK K))
        | ((first | clear hK K | clear IH hK K); (first | clear hK K | clear IH hK K); (first | clear hK K | clear IH hK K); refine hK _ _ ?_; try (first | clear hK K | clear IH hK K))
        | (refine AI_skip ?_; try simp only [AThen, ABlk, reduceIte, reduceCtorEq])
        | (refine AI_exit ?_; try simp only [AThen, ABlk, reduceIte, reduceCtorEq])
        | refine AI_cond_t rfl (by first | assumption | with_reducible rfl) ?_
        | refine AI_cond_f rfl (by first | assumption | with_reducible rfl) ?_
        | (refine AS_op (OpR_pick_t rfl (by first | assumption | with_reducible rfl) rfl ?_); try (simp only [st, List.set_cons_zero, List.set_cons_succ]))
        | (refine AS_op (OpR_pick_f rfl (by first | assumption | with_reducible rfl) rfl ?_); try (simp only [st, List.set_cons_zero, List.set_cons_succ]))
        | refine AS_gy rfl (by first | assumption | with_reducible rfl) ?_
        | (refine AS_gtn rfl (by first | assumption | with_reducible rfl) ?_)
        | (refine AS_gfn rfl (by first | assumption | with_reducible rfl) ?_)
        | refine AI_block (AI_loop ?_)
        | refine AI_block ?_
        | refine AI_ret ⟨_, rfl, ?_⟩
    refine AIL_ind (fun (n : Nat) a h' => ∃ (e y : Int) (x8 x9 x10 x11 x12 x13 x14 x15 x16 x17 x18 x19 x20 x21 x22 x23 x24 x25 x26 : AV), a = [.i .i64 x, .i .i64 m, un, un, .i .i64 0, .b false, .i .i64 e, .i .i64 y, x8, x9, x10, x11, x12, x13, x14, x15, x16, x17, x18, x19, x20, x21, x22, x23, x24, x25, x26] ∧ 0 ≤ y ∧ y ≤ m - 1 ∧ 1 ≤ e ∧ e + n = m + 1 ∧ h1 = h' ∧ ordM x m = ordL x m n e y)
      ?_ m.toNat _ _ ⟨1, x, _, _, _, _, _, _, _, _, _, _, _, _, _, _, _, _, _, _, _, rfl, by omega, by omega, by omega, by omega, rfl, by unfold ordM; rw [if_pos hv]⟩
    rintro n a h' ⟨e, y, x8, x9, x10, x11, x12, x13, x14, x15, x16, x17, x18, x19, x20, x21, x22, x23, x24, x25, x26, rfl, hy0, hy1, he, hn, rfl, ho⟩ IH
    have hb := mul_bd hy0 (show y ≤ m by omega) hv.2.2.1 (show x ≤ m by omega) hv.2.1
    have ht := tmod_bd hb.1 hv.1
    repeat
      first
        | refine AI_seqk fun K hK => ?_
        | refine AI_reg ?_
        | (refine AS_op (OpR_move rfl ?_); try (simp only [st, List.set_cons_zero, List.set_cons_succ]))
        | (refine AS_op (OpR_assign rfl ?_); try (simp only [st, List.set_cons_zero, List.set_cons_succ]))
        | (refine AS_op (OpR_arith _ rfl rfl rfl (by omega) (by omega) ?_); try (simp only [st, List.set_cons_zero, List.set_cons_succ]))
        | (refine AS_op (OpR_bin rfl rfl rfl ?_); try (simp only [st, List.set_cons_zero, List.set_cons_succ]))
        | (refine AS_op (OpR_not rfl ?_); try (simp only [st, List.set_cons_zero, List.set_cons_succ]))
        | (refine AS_op (OpR_extract rfl rfl ?_); try (simp only [st, List.set_cons_zero, List.set_cons_succ]))
        | (refine AS_op (OpR_pick_b rfl rfl rfl ?_); try (simp only [st, List.set_cons_zero, List.set_cons_succ]))
        | (refine AS_op (OpR_makeFunc rfl ?_); try (simp only [st, List.set_cons_zero, List.set_cons_succ]))
        | (refine AS_op (OpR_beq Try.underlying4 rfl rfl _ (.inr ⟨rfl, rfl⟩) ?_); try (simp only [st, List.set_cons_zero, List.set_cons_succ]))
        | (refine AS_op (OpR_beq Try.underlying4 rfl rfl _ (.inl ⟨rfl, rfl⟩) ?_); try (simp only [st, List.set_cons_zero, List.set_cons_succ]))
        | (refine AS_nil ?_; try simp only [AThen, ABlk, reduceIte, reduceCtorEq])
        | (refine hK _ _ ?_; try (first | clear hK K | clear IH hK K))
        | ((first | clear hK K | clear IH hK K); refine hK _ _ ?_; try (first | clear hK K | clear IH hK K))
        | ((first | clear hK K | clear IH hK K); (first | clear hK K | clear IH hK K); refine hK _ _ ?_; try (first | clear hK K | clear IH hK K))
        | ((first | clear hK K | clear IH hK K); (first | clear hK K | clear IH hK K); (first | clear hK K | clear IH hK K); refine hK _ _ ?_; try (first | clear hK K | clear IH hK K))
        | (refine AI_skip ?_; try simp only [AThen, ABlk, reduceIte, reduceCtorEq])
        | (refine AI_exit ?_; try simp only [AThen, ABlk, reduceIte, reduceCtorEq])
        | refine AI_cond_t rfl (by first | assumption | with_reducible rfl) ?_
        | refine AI_cond_f rfl (by first | assumption | with_reducible rfl) ?_
        | (refine AS_op (OpR_pick_t rfl (by first | assumption | with_reducible rfl) rfl ?_); try (simp only [st, List.set_cons_zero, List.set_cons_succ]))
        | (refine AS_op (OpR_pick_f rfl (by first | assumption | with_reducible rfl) rfl ?_); try (simp only [st, List.set_cons_zero, List.set_cons_succ]))
        | refine AS_gy rfl (by first | assumption | with_reducible rfl) ?_
        | (refine AS_gtn rfl (by first | assumption | with_reducible rfl) ?_)
        | (refine AS_gfn rfl (by first | assumption | with_reducible rfl) ?_)
        | refine AI_block (AI_loop ?_)
        | refine AI_block ?_
        | refine AI_ret ⟨_, rfl, ?_⟩
    (first | refine AS_gt rfl ?_ ?_ | refine AS_gf rfl ?_ ?_ | refine AI_cond rfl ?_ ?_) <;> intro hc <;> have hc' := hc <;> (try simp only [decide_eq_true_eq, decide_eq_false_iff_not, Bool.not_eq_true', Bool.not_eq_false', Bool.not_eq_true, Bool.not_eq_false, beq_iff_eq, bne_iff_ne, beq_eq_false_iff_ne, bne_eq_false_iff_eq, Int.not_lt, Int.not_le, ge_iff_le, gt_iff_lt, not_and, ne_eq, Decidable.not_not] at hc')
    all_goals
      repeat
        first
          | refine AI_seqk fun K hK => ?_
          | refine AI_reg ?_
          | (refine AS_op (OpR_move rfl ?_); try (simp only [st, List.set_cons_zero, List.set_cons_succ]))
          | (refine AS_op (OpR_assign rfl ?_); try (simp only [st, List.set_cons_zero, List.set_cons_succ]))
          | (refine AS_op (OpR_arith _ rfl rfl rfl (by omega) (by omega) ?_); try (simp only [st, List.set_cons_zero, List.set_cons_succ]))
          | (refine AS_op (OpR_bin rfl rfl rfl ?_); try (simp only [st, List.set_cons_zero, List.set_cons_succ]))
          | (refine AS_op (OpR_not rfl ?_); try (simp only [st, List.set_cons_zero, List.set_cons_succ]))
          | (refine AS_op (OpR_extract rfl rfl ?_); try (simp only [st, List.set_cons_zero, List.set_cons_succ]))
          | (refine AS_op (OpR_pick_b rfl rfl rfl ?_); try (simp only [st, List.set_cons_zero, List.set_cons_succ]))
          | (refine AS_op (OpR_makeFunc rfl ?_); try (simp only [st, List.set_cons_zero, List.set_cons_succ]))
          | (refine AS_op (OpR_beq Try.underlying4 rfl rfl _ (.inr ⟨rfl, rfl⟩) ?_); try (simp only [st, List.set_cons_zero, List.set_cons_succ]))
          | (refine AS_op (OpR_beq Try.underlying4 rfl rfl _ (.inl ⟨rfl, rfl⟩) ?_); try (simp only [st, List.set_cons_zero, List.set_cons_succ]))
          | (refine AS_nil ?_; try simp only [AThen, ABlk, reduceIte, reduceCtorEq])
          | (refine hK _ _ ?_; try (first | clear hK K | clear IH hK K))
          | ((first | clear hK K | clear IH hK K); refine hK _ _ ?_; try (first | clear hK K | clear IH hK K))
          | ((first | clear hK K | clear IH hK K); (first | clear hK K | clear IH hK K); refine hK _ _ ?_; try (first | clear hK K | clear IH hK K))
          | ((first | clear hK K | clear IH hK K); (first | clear hK K | clear IH hK K); (first | clear hK K | clear IH hK K); refine hK _ _ ?_; try (first | clear hK K | clear IH hK K))
          | (refine AI_skip ?_; try simp only [AThen, ABlk, reduceIte, reduceCtorEq])
          | (refine AI_exit ?_; try simp only [AThen, ABlk, reduceIte, reduceCtorEq])
          | refine AI_cond_t rfl (by first | assumption | with_reducible rfl) ?_
          | refine AI_cond_f rfl (by first | assumption | with_reducible rfl) ?_
          | (refine AS_op (OpR_pick_t rfl (by first | assumption | with_reducible rfl) rfl ?_); try (simp only [st, List.set_cons_zero, List.set_cons_succ]))
          | (refine AS_op (OpR_pick_f rfl (by first | assumption | with_reducible rfl) rfl ?_); try (simp only [st, List.set_cons_zero, List.set_cons_succ]))
          | refine AS_gy rfl (by first | assumption | with_reducible rfl) ?_
          | (refine AS_gtn rfl (by first | assumption | with_reducible rfl) ?_)
          | (refine AS_gfn rfl (by first | assumption | with_reducible rfl) ?_)
          | refine AI_block (AI_loop ?_)
          | refine AI_block ?_
          | refine AI_ret ⟨_, rfl, ?_⟩
    · obtain ⟨n, rfl⟩ : ∃ q, n = q + 1 := ⟨n - 1, by omega⟩
      rw [ordL] at ho
      (first | refine AS_gt rfl ?_ ?_ | refine AS_gf rfl ?_ ?_ | refine AI_cond rfl ?_ ?_) <;> intro hc <;> have hc' := hc <;> (try simp only [decide_eq_true_eq, decide_eq_false_iff_not, Bool.not_eq_true', Bool.not_eq_false', Bool.not_eq_true, Bool.not_eq_false, beq_iff_eq, bne_iff_ne, beq_eq_false_iff_ne, bne_eq_false_iff_eq, Int.not_lt, Int.not_le, ge_iff_le, gt_iff_lt, not_and, ne_eq, Decidable.not_not] at hc')
      all_goals
        repeat
          first
            | refine AI_seqk fun K hK => ?_
            | refine AI_reg ?_
            | (refine AS_op (OpR_move rfl ?_); try (simp only [st, List.set_cons_zero, List.set_cons_succ]))
            | (refine AS_op (OpR_assign rfl ?_); try (simp only [st, List.set_cons_zero, List.set_cons_succ]))
            | (refine AS_op (OpR_arith _ rfl rfl rfl (by omega) (by omega) ?_); try (simp only [st, List.set_cons_zero, List.set_cons_succ]))
            | (refine AS_op (OpR_bin rfl rfl rfl ?_); try (simp only [st, List.set_cons_zero, List.set_cons_succ]))
            | (refine AS_op (OpR_not rfl ?_); try (simp only [st, List.set_cons_zero, List.set_cons_succ]))
            | (refine AS_op (OpR_extract rfl rfl ?_); try (simp only [st, List.set_cons_zero, List.set_cons_succ]))
            | (refine AS_op (OpR_pick_b rfl rfl rfl ?_); try (simp only [st, List.set_cons_zero, List.set_cons_succ]))
            | (refine AS_op (OpR_makeFunc rfl ?_); try (simp only [st, List.set_cons_zero, List.set_cons_succ]))
            | (refine AS_op (OpR_beq Try.underlying4 rfl rfl _ (.inr ⟨rfl, rfl⟩) ?_); try (simp only [st, List.set_cons_zero, List.set_cons_succ]))
            | (refine AS_op (OpR_beq Try.underlying4 rfl rfl _ (.inl ⟨rfl, rfl⟩) ?_); try (simp only [st, List.set_cons_zero, List.set_cons_succ]))
            | (refine AS_nil ?_; try simp only [AThen, ABlk, reduceIte, reduceCtorEq])
            | (refine hK _ _ ?_; try (first | clear hK K | clear IH hK K))
            | ((first | clear hK K | clear IH hK K); refine hK _ _ ?_; try (first | clear hK K | clear IH hK K))
            | ((first | clear hK K | clear IH hK K); (first | clear hK K | clear IH hK K); refine hK _ _ ?_; try (first | clear hK K | clear IH hK K))
            | ((first | clear hK K | clear IH hK K); (first | clear hK K | clear IH hK K); (first | clear hK K | clear IH hK K); refine hK _ _ ?_; try (first | clear hK K | clear IH hK K))
            | (refine AI_skip ?_; try simp only [AThen, ABlk, reduceIte, reduceCtorEq])
            | (refine AI_exit ?_; try simp only [AThen, ABlk, reduceIte, reduceCtorEq])
            | refine AI_cond_t rfl (by first | assumption | with_reducible rfl) ?_
            | refine AI_cond_f rfl (by first | assumption | with_reducible rfl) ?_
            | (refine AS_op (OpR_pick_t rfl (by first | assumption | with_reducible rfl) rfl ?_); try (simp only [st, List.set_cons_zero, List.set_cons_succ]))
            | (refine AS_op (OpR_pick_f rfl (by first | assumption | with_reducible rfl) rfl ?_); try (simp only [st, List.set_cons_zero, List.set_cons_succ]))
            | refine AS_gy rfl (by first | assumption | with_reducible rfl) ?_
            | (refine AS_gtn rfl (by first | assumption | with_reducible rfl) ?_)
            | (refine AS_gfn rfl (by first | assumption | with_reducible rfl) ?_)
            | refine AI_block (AI_loop ?_)
            | refine AI_block ?_
            | refine AI_ret ⟨_, rfl, ?_⟩
      · rw [if_pos hc'] at ho
        rw [ho]
        exact ⟨rfl, hle1⟩
      · refine AS_op (OpR_rem rfl rfl (by omega) ?_)
        try (simp only [st, List.set_cons_zero, List.set_cons_succ])
        repeat
          first
            | refine AI_seqk fun K hK => ?_
            | refine AI_reg ?_
            | (refine AS_op (OpR_move rfl ?_); try (simp only [st, List.set_cons_zero, List.set_cons_succ]))
            | (refine AS_op (OpR_assign rfl ?_); try (simp only [st, List.set_cons_zero, List.set_cons_succ]))
            | (refine AS_op (OpR_arith _ rfl rfl rfl (by omega) (by omega) ?_); try (simp only [st, List.set_cons_zero, List.set_cons_succ]))
            | (refine AS_op (OpR_bin rfl rfl rfl ?_); try (simp only [st, List.set_cons_zero, List.set_cons_succ]))
            | (refine AS_op (OpR_not rfl ?_); try (simp only [st, List.set_cons_zero, List.set_cons_succ]))
            | (refine AS_op (OpR_extract rfl rfl ?_); try (simp only [st, List.set_cons_zero, List.set_cons_succ]))
            | (refine AS_op (OpR_pick_b rfl rfl rfl ?_); try (simp only [st, List.set_cons_zero, List.set_cons_succ]))
            | (refine AS_op (OpR_makeFunc rfl ?_); try (simp only [st, List.set_cons_zero, List.set_cons_succ]))
            | (refine AS_op (OpR_beq Try.underlying4 rfl rfl _ (.inr ⟨rfl, rfl⟩) ?_); try (simp only [st, List.set_cons_zero, List.set_cons_succ]))
            | (refine AS_op (OpR_beq Try.underlying4 rfl rfl _ (.inl ⟨rfl, rfl⟩) ?_); try (simp only [st, List.set_cons_zero, List.set_cons_succ]))
            | (refine AS_nil ?_; try simp only [AThen, ABlk, reduceIte, reduceCtorEq])
            | (refine hK _ _ ?_; try (first | clear hK K | clear IH hK K))
            | ((first | clear hK K | clear IH hK K); refine hK _ _ ?_; try (first | clear hK K | clear IH hK K))
            | ((first | clear hK K | clear IH hK K); (first | clear hK K | clear IH hK K); refine hK _ _ ?_; try (first | clear hK K | clear IH hK K))
            | ((first | clear hK K | clear IH hK K); (first | clear hK K | clear IH hK K); (first | clear hK K | clear IH hK K); refine hK _ _ ?_; try (first | clear hK K | clear IH hK K))
            | (refine AI_skip ?_; try simp only [AThen, ABlk, reduceIte, reduceCtorEq])
            | (refine AI_exit ?_; try simp only [AThen, ABlk, reduceIte, reduceCtorEq])
            | refine AI_cond_t rfl (by first | assumption | with_reducible rfl) ?_
            | refine AI_cond_f rfl (by first | assumption | with_reducible rfl) ?_
            | (refine AS_op (OpR_pick_t rfl (by first | assumption | with_reducible rfl) rfl ?_); try (simp only [st, List.set_cons_zero, List.set_cons_succ]))
            | (refine AS_op (OpR_pick_f rfl (by first | assumption | with_reducible rfl) rfl ?_); try (simp only [st, List.set_cons_zero, List.set_cons_succ]))
            | refine AS_gy rfl (by first | assumption | with_reducible rfl) ?_
            | (refine AS_gtn rfl (by first | assumption | with_reducible rfl) ?_)
            | (refine AS_gfn rfl (by first | assumption | with_reducible rfl) ?_)
            | refine AI_block (AI_loop ?_)
            | refine AI_block ?_
            | refine AI_ret ⟨_, rfl, ?_⟩
        rw [if_neg hc'] at ho
        exact IH n _ _ (by omega) ⟨_, _, _, _, _, _, _, _, _, _, _, _, _, _, _, _, _, _, _, _, _, rfl, ht.1, ht.2, by omega, by omega, rfl, ho⟩
    · have : n = 0 := by omega
      subst this
      rw [ho]
      exact ⟨rfl, hle1⟩
  · have hfin : ordM x m = (0, false) := by unfold ordM; rw [if_neg hv]
    first | refine AS_gyH rfl (by simp; omega) ?_ | refine AI_cond_tH rfl (by simp; omega) ?_
    intro hg
    repeat
      first
        | refine AI_seqk fun K hK => ?_
        | refine AI_reg ?_
        | (refine AS_op (OpR_move rfl ?_); try (simp only [st, List.set_cons_zero, List.set_cons_succ]))
        | (refine AS_op (OpR_assign rfl ?_); try (simp only [st, List.set_cons_zero, List.set_cons_succ]))
        | (refine AS_op (OpR_arith _ rfl rfl rfl (by omega) (by omega) ?_); try (simp only [st, List.set_cons_zero, List.set_cons_succ]))
        | (refine AS_op (OpR_bin rfl rfl rfl ?_); try (simp only [st, List.set_cons_zero, List.set_cons_succ]))
        | (refine AS_op (OpR_not rfl ?_); try (simp only [st, List.set_cons_zero, List.set_cons_succ]))
        | (refine AS_op (OpR_extract rfl rfl ?_); try (simp only [st, List.set_cons_zero, List.set_cons_succ]))
        | (refine AS_op (OpR_pick_b rfl rfl rfl ?_); try (simp only [st, List.set_cons_zero, List.set_cons_succ]))
        | (refine AS_op (OpR_makeFunc rfl ?_); try (simp only [st, List.set_cons_zero, List.set_cons_succ]))
        | (refine AS_op (OpR_beq Try.underlying4 rfl rfl _ (.inr ⟨rfl, rfl⟩) ?_); try (simp only [st, List.set_cons_zero, List.set_cons_succ]))
        | (refine AS_op (OpR_beq Try.underlying4 rfl rfl _ (.inl ⟨rfl, rfl⟩) ?_); try (simp only [st, List.set_cons_zero, List.set_cons_succ]))
        | (refine AS_nil ?_; try simp only [AThen, ABlk, reduceIte, reduceCtorEq])
        | (refine hK _ _ ?_; try (first | clear hK K | clear IH hK K))
        | ((first | clear hK K | clear IH hK K); refine hK _ _ ?_; try (first | clear hK K | clear IH hK K))
        | ((first | clear hK K | clear IH hK K); (first | clear hK K | clear IH hK K); refine hK _ _ ?_; try (first | clear hK K | clear IH hK K))
        | ((first | clear hK K | clear IH hK K); (first | clear hK K | clear IH hK K); (first | clear hK K | clear IH hK K); refine hK _ _ ?_; try (first | clear hK K | clear IH hK K))
        | (refine AI_skip ?_; try simp only [AThen, ABlk, reduceIte, reduceCtorEq])
        | (refine AI_exit ?_; try simp only [AThen, ABlk, reduceIte, reduceCtorEq])
        | refine AI_cond_t rfl (by first | assumption | with_reducible rfl) ?_
        | refine AI_cond_f rfl (by first | assumption | with_reducible rfl) ?_
        | (refine AS_op (OpR_pick_t rfl (by first | assumption | with_reducible rfl) rfl ?_); try (simp only [st, List.set_cons_zero, List.set_cons_succ]))
        | (refine AS_op (OpR_pick_f rfl (by first | assumption | with_reducible rfl) rfl ?_); try (simp only [st, List.set_cons_zero, List.set_cons_succ]))
        | refine AS_gy rfl (by first | assumption | with_reducible rfl) ?_
        | (refine AS_gtn rfl (by first | assumption | with_reducible rfl) ?_)
        | (refine AS_gfn rfl (by first | assumption | with_reducible rfl) ?_)
        | refine AI_block (AI_loop ?_)
        | refine AI_block ?_
        | refine AI_ret ⟨_, rfl, ?_⟩
    rw [hfin]
    exact ⟨rfl, hle1⟩

theorem lawFnExactOrderModulo_ac (x : Int) (wx : (Lit.int .i64 x).wf = true) (m : Int) (wm : (Lit.int .i64 m).wf = true) (h : AH) : AC Try.prog 3 [.i .i64 x, .i .i64 m] h (fun r h' => r = .b true) := by
  refine e3 _ _ fun wf => ?_
  unfold c3
  repeat
    first
      | refine AI_seqk fun K hK => ?_
      | refine AI_reg ?_
      | (refine AS_op (OpR_move rfl ?_); try (simp only [st, List.set_cons_zero, List.set_cons_succ]))
      | (refine AS_op (OpR_assign rfl ?_); try (simp only [st, List.set_cons_zero, List.set_cons_succ]))
      | (refine AS_op (OpR_arith _ rfl rfl rfl (by omega) (by omega) ?_); try (simp only [st, List.set_cons_zero, List.set_cons_succ]))
      | (refine AS_op (OpR_bin rfl rfl rfl ?_); try (simp only [st, List.set_cons_zero, List.set_cons_succ]))
      | (refine AS_op (OpR_not rfl ?_); try (simp only [st, List.set_cons_zero, List.set_cons_succ]))
      | (refine AS_op (OpR_extract rfl rfl ?_); try (simp only [st, List.set_cons_zero, List.set_cons_succ]))
      | (refine AS_op (OpR_pick_b rfl rfl rfl ?_); try (simp only [st, List.set_cons_zero, List.set_cons_succ]))
      | (refine AS_op (OpR_makeFunc rfl ?_); try (simp only [st, List.set_cons_zero, List.set_cons_succ]))
      | (refine AS_op (OpR_beq Try.underlying4 rfl rfl _ (.inr ⟨rfl, rfl⟩) ?_); try (simp only [st, List.set_cons_zero, List.set_cons_succ]))
      | (refine AS_op (OpR_beq Try.underlying4 rfl rfl _ (.inl ⟨rfl, rfl⟩) ?_); try (simp only [st, List.set_cons_zero, List.set_cons_succ]))
      | (refine AS_nil ?_; try simp only [AThen, ABlk, reduceIte, reduceCtorEq])
      | (refine hK _ _ ?_; try (first | clear hK K | clear IH hK K))
      | ((first | clear hK K | clear IH hK K); refine hK _ _ ?_; try (first | clear hK K | clear IH hK K))
      | ((first | clear hK K | clear IH hK K); (first | clear hK K | clear IH hK K); refine hK _ _ ?_; try (first | clear hK K | clear IH hK K))
      | ((first | clear hK K | clear IH hK K); (first | clear hK K | clear IH hK K); (first | clear hK K | clear IH hK K); refine hK _ _ ?_; try (first | clear hK K | clear IH hK K))
      | (refine AI_skip ?_; try simp only [AThen, ABlk, reduceIte, reduceCtorEq])
      | (refine AI_exit ?_; try simp only [AThen, ABlk, reduceIte, reduceCtorEq])
      | refine AI_cond_t rfl (by first | assumption | with_reducible rfl) ?_
      | refine AI_cond_f rfl (by first | assumption | with_reducible rfl) ?_
      | (refine AS_op (OpR_pick_t rfl (by first | assumption | with_reducible rfl) rfl ?_); try (simp only [st, List.set_cons_zero, List.set_cons_succ]))
      | (refine AS_op (OpR_pick_f rfl (by first | assumption | with_reducible rfl) rfl ?_); try (simp only [st, List.set_cons_zero, List.set_cons_succ]))
      | refine AS_gy rfl (by first | assumption | with_reducible rfl) ?_
      | (refine AS_gtn rfl (by first | assumption | with_reducible rfl) ?_)
      | (refine AS_gfn rfl (by first | assumption | with_reducible rfl) ?_)
      | refine AI_block (AI_loop ?_)
      | refine AI_block ?_
      | refine AI_ret ⟨_, rfl, ?_⟩
  refine AS_op (OpR_call rfl rfl (specOrder_ac x m _) ?_)
  rintro _ h1 wf1 ⟨rfl, hle1⟩
  try (simp only [st, List.set_cons_zero, List.set_cons_succ])
  repeat
    first
      | refine AI_seqk fun K hK => ?_
      | refine AI_reg ?_
      | (refine AS_op (OpR_move rfl ?_); try (simp only [st, List.set_cons_zero, List.set_cons_succ]))
      | (refine AS_op (OpR_assign rfl ?_); try (simp only [st, List.set_cons_zero, List.set_cons_succ]))
      | (refine AS_op (OpR_arith _ rfl rfl rfl (by omega) (by omega) ?_); try (simp only [st, List.set_cons_zero, List.set_cons_succ]))
      | (refine AS_op (OpR_bin rfl rfl rfl ?_); try (simp only [st, List.set_cons_zero, List.set_cons_succ]))
      | (refine AS_op (OpR_not rfl ?_); try (simp only [st, List.set_cons_zero, List.set_cons_succ]))
      | (refine AS_op (OpR_extract rfl rfl ?_); try (simp only [st, List.set_cons_zero, List.set_cons_succ]))
      | (refine AS_op (OpR_pick_b rfl rfl rfl ?_); try (simp only [st, List.set_cons_zero, List.set_cons_succ]))
      | (refine AS_op (OpR_makeFunc rfl ?_); try (simp only [st, List.set_cons_zero, List.set_cons_succ]))
      | (refine AS_op (OpR_beq Try.underlying4 rfl rfl _ (.inr ⟨rfl, rfl⟩) ?_); try (simp only [st, List.set_cons_zero, List.set_cons_succ]))
      | (refine AS_op (OpR_beq Try.underlying4 rfl rfl _ (.inl ⟨rfl, rfl⟩) ?_); try (simp only [st, List.set_cons_zero, List.set_cons_succ]))
      | (refine AS_nil ?_; try simp only [AThen, ABlk, reduceIte, reduceCtorEq])
      | (refine hK _ _ ?_; try (first | clear hK K | clear IH hK K))
      | ((first | clear hK K | clear IH hK K); refine hK _ _ ?_; try (first | clear hK K | clear IH hK K))
      | ((first | clear hK K | clear IH hK K); (first | clear hK K | clear IH hK K); refine hK _ _ ?_; try (first | clear hK K | clear IH hK K))
      | ((first | clear hK K | clear IH hK K); (first | clear hK K | clear IH hK K); (first | clear hK K | clear IH hK K); refine hK _ _ ?_; try (first | clear hK K | clear IH hK K))
      | (refine AI_skip ?_; try simp only [AThen, ABlk, reduceIte, reduceCtorEq])
      | (refine AI_exit ?_; try simp only [AThen, ABlk, reduceIte, reduceCtorEq])
      | refine AI_cond_t rfl (by first | assumption | with_reducible rfl) ?_
      | refine AI_cond_f rfl (by first | assumption | with_reducible rfl) ?_
      | (refine AS_op (OpR_pick_t rfl (by first | assumption | with_reducible rfl) rfl ?_); try (simp only [st, List.set_cons_zero, List.set_cons_succ]))
      | (refine AS_op (OpR_pick_f rfl (by first | assumption | with_reducible rfl) rfl ?_); try (simp only [st, List.set_cons_zero, List.set_cons_succ]))
      | refine AS_gy rfl (by first | assumption | with_reducible rfl) ?_
      | (refine AS_gtn rfl (by first | assumption | with_reducible rfl) ?_)
      | (refine AS_gfn rfl (by first | assumption | with_reducible rfl) ?_)
      | refine AI_block (AI_loop ?_)
      | refine AI_block ?_
      | refine AI_ret ⟨_, rfl, ?_⟩
  refine AS_op (OpR_call rfl rfl (implOrder_ac x m _) ?_)
  rintro _ h2 wf2 ⟨rfl, hle2⟩
  try (simp only [st, List.set_cons_zero, List.set_cons_succ])
  repeat
    first
      | refine AI_seqk fun K hK => ?_
      | refine AI_reg ?_
      | (refine AS_op (OpR_move rfl ?_); try (simp only [st, List.set_cons_zero, List.set_cons_succ]))
      | (refine AS_op (OpR_assign rfl ?_); try (simp only [st, List.set_cons_zero, List.set_cons_succ]))
      | (refine AS_op (OpR_arith _ rfl rfl rfl (by omega) (by omega) ?_); try (simp only [st, List.set_cons_zero, List.set_cons_succ]))
      | (refine AS_op (OpR_bin rfl rfl rfl ?_); try (simp only [st, List.set_cons_zero, List.set_cons_succ]))
      | (refine AS_op (OpR_not rfl ?_); try (simp only [st, List.set_cons_zero, List.set_cons_succ]))
      | (refine AS_op (OpR_extract rfl rfl ?_); try (simp only [st, List.set_cons_zero, List.set_cons_succ]))
      | (refine AS_op (OpR_pick_b rfl rfl rfl ?_); try (simp only [st, List.set_cons_zero, List.set_cons_succ]))
      | (refine AS_op (OpR_makeFunc rfl ?_); try (simp only [st, List.set_cons_zero, List.set_cons_succ]))
      | (refine AS_op (OpR_beq Try.underlying4 rfl rfl _ (.inr ⟨rfl, rfl⟩) ?_); try (simp only [st, List.set_cons_zero, List.set_cons_succ]))
      | (refine AS_op (OpR_beq Try.underlying4 rfl rfl _ (.inl ⟨rfl, rfl⟩) ?_); try (simp only [st, List.set_cons_zero, List.set_cons_succ]))
      | (refine AS_nil ?_; try simp only [AThen, ABlk, reduceIte, reduceCtorEq])
      | (refine hK _ _ ?_; try (first | clear hK K | clear IH hK K))
      | ((first | clear hK K | clear IH hK K); refine hK _ _ ?_; try (first | clear hK K | clear IH hK K))
      | ((first | clear hK K | clear IH hK K); (first | clear hK K | clear IH hK K); refine hK _ _ ?_; try (first | clear hK K | clear IH hK K))
      | ((first | clear hK K | clear IH hK K); (first | clear hK K | clear IH hK K); (first | clear hK K | clear IH hK K); refine hK _ _ ?_; try (first | clear hK K | clear IH hK K))
      | (refine AI_skip ?_; try simp only [AThen, ABlk, reduceIte, reduceCtorEq])
      | (refine AI_exit ?_; try simp only [AThen, ABlk, reduceIte, reduceCtorEq])
      | refine AI_cond_t rfl (by first | assumption | with_reducible rfl) ?_
      | refine AI_cond_f rfl (by first | assumption | with_reducible rfl) ?_
      | (refine AS_op (OpR_pick_t rfl (by first | assumption | with_reducible rfl) rfl ?_); try (simp only [st, List.set_cons_zero, List.set_cons_succ]))
      | (refine AS_op (OpR_pick_f rfl (by first | assumption | with_reducible rfl) rfl ?_); try (simp only [st, List.set_cons_zero, List.set_cons_succ]))
      | refine AS_gy rfl (by first | assumption | with_reducible rfl) ?_
      | (refine AS_gtn rfl (by first | assumption | with_reducible rfl) ?_)
      | (refine AS_gfn rfl (by first | assumption | with_reducible rfl) ?_)
      | refine AI_block (AI_loop ?_)
      | refine AI_block ?_
      | refine AI_ret ⟨_, rfl, ?_⟩
  first | refine AS_gyH rfl (by simp) ?_ | refine AI_cond_tH rfl (by simp) ?_
  intro hg
  repeat
    first
      | refine AI_seqk fun K hK => ?_
      | refine AI_reg ?_
      | (refine AS_op (OpR_move rfl ?_); try (simp only [st, List.set_cons_zero, List.set_cons_succ]))
      | (refine AS_op (OpR_assign rfl ?_); try (simp only [st, List.set_cons_zero, List.set_cons_succ]))
      | (refine AS_op (OpR_arith _ rfl rfl rfl (by omega) (by omega) ?_); try (simp only [st, List.set_cons_zero, List.set_cons_succ]))
      | (refine AS_op (OpR_bin rfl rfl rfl ?_); try (simp only [st, List.set_cons_zero, List.set_cons_succ]))
      | (refine AS_op (OpR_not rfl ?_); try (simp only [st, List.set_cons_zero, List.set_cons_succ]))
      | (refine AS_op (OpR_extract rfl rfl ?_); try (simp only [st, List.set_cons_zero, List.set_cons_succ]))
      | (refine AS_op (OpR_pick_b rfl rfl rfl ?_); try (simp only [st, List.set_cons_zero, List.set_cons_succ]))
      | (refine AS_op (OpR_makeFunc rfl ?_); try (simp only [st, List.set_cons_zero, List.set_cons_succ]))
      | (refine AS_op (OpR_beq Try.underlying4 rfl rfl _ (.inr ⟨rfl, rfl⟩) ?_); try (simp only [st, List.set_cons_zero, List.set_cons_succ]))
      | (refine AS_op (OpR_beq Try.underlying4 rfl rfl _ (.inl ⟨rfl, rfl⟩) ?_); try (simp only [st, List.set_cons_zero, List.set_cons_succ]))
      | (refine AS_nil ?_; try simp only [AThen, ABlk, reduceIte, reduceCtorEq])
      | (refine hK _ _ ?_; try (first | clear hK K | clear IH hK K))
      | ((first | clear hK K | clear IH hK K); refine hK _ _ ?_; try (first | clear hK K | clear IH hK K))
      | ((first | clear hK K | clear IH hK K); (first | clear hK K | clear IH hK K); refine hK _ _ ?_; try (first | clear hK K | clear IH hK K))
      | ((first | clear hK K | clear IH hK K); (first | clear hK K | clear IH hK K); (first | clear hK K | clear IH hK K); refine hK _ _ ?_; try (first | clear hK K | clear IH hK K))
      | (refine AI_skip ?_; try simp only [AThen, ABlk, reduceIte, reduceCtorEq])
      | (refine AI_exit ?_; try simp only [AThen, ABlk, reduceIte, reduceCtorEq])
      | refine AI_cond_t rfl (by first | assumption | with_reducible rfl) ?_
      | refine AI_cond_f rfl (by first | assumption | with_reducible rfl) ?_
      | (refine AS_op (OpR_pick_t rfl (by first | assumption | with_reducible rfl) rfl ?_); try (simp only [st, List.set_cons_zero, List.set_cons_succ]))
      | (refine AS_op (OpR_pick_f rfl (by first | assumption | with_reducible rfl) rfl ?_); try (simp only [st, List.set_cons_zero, List.set_cons_succ]))
      | refine AS_gy rfl (by first | assumption | with_reducible rfl) ?_
      | (refine AS_gtn rfl (by first | assumption | with_reducible rfl) ?_)
      | (refine AS_gfn rfl (by first | assumption | with_reducible rfl) ?_)
      | refine AI_block (AI_loop ?_)
      | refine AI_block ?_
      | refine AI_ret ⟨_, rfl, ?_⟩
  first | refine AS_gtnH rfl (by simp) ?_ | refine AS_gfnH rfl (by simp) ?_ | refine AI_cond_fH rfl (by simp) ?_
  intro hg
  repeat
    first
      | refine AI_seqk fun K hK => ?_
      | refine AI_reg ?_
      | (refine AS_op (OpR_move rfl ?_); try (simp only [st, List.set_cons_zero, List.set_cons_succ]))
      | (refine AS_op (OpR_assign rfl ?_); try (simp only [st, List.set_cons_zero, List.set_cons_succ]))
      | (refine AS_op (OpR_arith _ rfl rfl rfl (by omega) (by omega) ?_); try (simp only [st, List.set_cons_zero, List.set_cons_succ]))
      | (refine AS_op (OpR_bin rfl rfl rfl ?_); try (simp only [st, List.set_cons_zero, List.set_cons_succ]))
      | (refine AS_op (OpR_not rfl ?_); try (simp only [st, List.set_cons_zero, List.set_cons_succ]))
      | (refine AS_op (OpR_extract rfl rfl ?_); try (simp only [st, List.set_cons_zero, List.set_cons_succ]))
      | (refine AS_op (OpR_pick_b rfl rfl rfl ?_); try (simp only [st, List.set_cons_zero, List.set_cons_succ]))
      | (refine AS_op (OpR_makeFunc rfl ?_); try (simp only [st, List.set_cons_zero, List.set_cons_succ]))
      | (refine AS_op (OpR_beq Try.underlying4 rfl rfl _ (.inr ⟨rfl, rfl⟩) ?_); try (simp only [st, List.set_cons_zero, List.set_cons_succ]))
      | (refine AS_op (OpR_beq Try.underlying4 rfl rfl _ (.inl ⟨rfl, rfl⟩) ?_); try (simp only [st, List.set_cons_zero, List.set_cons_succ]))
      | (refine AS_nil ?_; try simp only [AThen, ABlk, reduceIte, reduceCtorEq])
      | (refine hK _ _ ?_; try (first | clear hK K | clear IH hK K))
      | ((first | clear hK K | clear IH hK K); refine hK _ _ ?_; try (first | clear hK K | clear IH hK K))
      | ((first | clear hK K | clear IH hK K); (first | clear hK K | clear IH hK K); refine hK _ _ ?_; try (first | clear hK K | clear IH hK K))
      | ((first | clear hK K | clear IH hK K); (first | clear hK K | clear IH hK K); (first | clear hK K | clear IH hK K); refine hK _ _ ?_; try (first | clear hK K | clear IH hK K))
      | (refine AI_skip ?_; try simp only [AThen, ABlk, reduceIte, reduceCtorEq])
      | (refine AI_exit ?_; try simp only [AThen, ABlk, reduceIte, reduceCtorEq])
      | refine AI_cond_t rfl (by first | assumption | with_reducible rfl) ?_
      | refine AI_cond_f rfl (by first | assumption | with_reducible rfl) ?_
      | (refine AS_op (OpR_pick_t rfl (by first | assumption | with_reducible rfl) rfl ?_); try (simp only [st, List.set_cons_zero, List.set_cons_succ]))
      | (refine AS_op (OpR_pick_f rfl (by first | assumption | with_reducible rfl) rfl ?_); try (simp only [st, List.set_cons_zero, List.set_cons_succ]))
      | refine AS_gy rfl (by first | assumption | with_reducible rfl) ?_
      | (refine AS_gtn rfl (by first | assumption | with_reducible rfl) ?_)
      | (refine AS_gfn rfl (by first | assumption | with_reducible rfl) ?_)
      | refine AI_block (AI_loop ?_)
      | refine AI_block ?_
      | refine AI_ret ⟨_, rfl, ?_⟩
  rfl
end Go.Proofs.Ytfgealbhigkddaa
