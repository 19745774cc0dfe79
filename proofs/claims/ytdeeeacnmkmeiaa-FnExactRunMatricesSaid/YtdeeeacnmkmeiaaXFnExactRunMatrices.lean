/- The walk of the law FnExactRunMatrices, part 2: what each function that it reaches computes. -/
import Derived.Test.YtdeeeacnmkmeiaaXFnExactRunMatricesa
namespace Go.Proofs.Ytdeeeacnmkmeiaa
open Go.AL
set_option linter.unusedVariables false
set_option linter.unusedSimpArgs false
set_option maxRecDepth 100000
set_option maxHeartbeats 1000000
attribute [local irreducible] AS AI AIL OpR AC CW AWP ALoop LS LI LIL LThen LLoop LBlk LRet Lh AX OpV OpF

theorem outputsOf_Mat_ac (p : PlanM) (l : List MatM) (b : Nat) (vs vo w : AV) (h : AH) (hp : PlP h b p vs vo) (hl : RdG 4 enMat h w l) (ho1 : p.outs.length ≤ 1048576) (hob : ∀ i ∈ p.outs, 0 ≤ i ∧ i < l.length) :
    AC Try.prog 103 [.p b 0, w] h (fun r h' => Own h 4 enMat h' r (pickM l p.outs)) := by
  have c2 := hp.c2
  have ho := hp.outs
  refine e103 _ _ fun wf => ?_
  unfold c103
  refine LI_start wf ?_
  refine W ?_
  refine LS_lt ([] : List MatM) rfl rfl (by decide) rfl rfl rfl rfl enMat4 rfl rfl fun lit3 hlit3 slit3 => ?_
  try (dsimp only [st, setL, AV.cells, List.set_cons_zero, List.set_cons_succ, List.drop_zero, List.drop_succ_cons, List.take_zero, List.take_succ_cons, Nat.zero_add, Nat.add_zero, Nat.reduceAdd, List.cons_append, List.nil_append, List.eraseIdx_cons_zero, List.eraseIdx_cons_succ])
  refine W ?_
  refine LIL_ind (fun n a L => ∃ (i : Int) (u : AV), (∃ r : Nat → AV, a = [r 0, w, r 2, r 3, r 4, u, r 6, r 7, r 8, r 9, r 10, r 11, vo, .i .i64 p.outs.length, .i .i64 i, r 15, r 16, r 17, r 18, r 19, r 20, r 21, r 22, r 23, r 24, r 25, r 26]) ∧ L = [.sl u 4 ((pickM l (p.outs.take i.toNat)).flatMap enMat)] ∧ 0 ≤ i ∧ i + n = p.outs.length)
    p.outs.length ⟨0, _, exJ rfl, rfl, by omega, by omega⟩ ?_
  rintro n a L ⟨i, u, ⟨r, rfl⟩, rfl, h0, hn⟩ IH
  have hel := pickM_len l (p.outs.take i.toNat)
  rw [List.length_take] at hel
  refine W ?_
  (first | refine LS_gt rfl ?_ ?_ | refine LS_gf rfl ?_ ?_ | refine LI_cond rfl ?_ ?_) <;> intro hc <;> have hc' := hc <;> try simp only [decide_eq_true_eq, decide_eq_false_iff_not, Bool.not_eq_true', Bool.not_eq_false', Bool.not_eq_true, Bool.not_eq_false, beq_iff_eq, bne_iff_ne, beq_eq_false_iff_ne, bne_eq_false_iff_eq, Int.not_lt, Int.not_le, ge_iff_le, gt_iff_lt, not_and, ne_eq, Decidable.not_not] at hc'
  all_goals (try (dsimp only [st, setL, AV.cells, List.set_cons_zero, List.set_cons_succ, List.drop_zero, List.drop_succ_cons, List.take_zero, List.take_succ_cons, Nat.zero_add, Nat.add_zero, Nat.reduceAdd, List.cons_append, List.nil_append, List.eraseIdx_cons_zero, List.eraseIdx_cons_succ]))
  all_goals (refine W ?_)
  · obtain ⟨y, hy, hym, hd⟩ := drop_at (l := p.outs) h0 hc'
    have hyb := hob y hym
    have l1 : y.toNat < l.length := by omega
    have g1 : l[y.toNat]? = some l[y.toNat] := List.getElem?_eq_getElem l1
    have e : pickM l (p.outs.take (i + 1).toNat) = pickM l (p.outs.take i.toNat) ++ [l[y.toNat]] := by
      rw [toNat_succ h0, take_snoc hy, pickM, List.filterMap_append]
      simp [g1, pickM]
    refine LS_ix (fun h' HL => ho.le HL.le) enI1 hy h0 rfl rfl fun q1 o1 hrow1 => ?_
    try (dsimp only [st, setL, AV.cells, List.set_cons_zero, List.set_cons_succ, List.drop_zero, List.drop_succ_cons, List.take_zero, List.take_succ_cons, Nat.zero_add, Nat.add_zero, Nat.reduceAdd, List.cons_append, List.nil_append, List.eraseIdx_cons_zero, List.eraseIdx_cons_succ])
    refine W ?_
    refine LS_ix (fun h' HL => hl.le HL.le) enMat4 g1 hyb.1 rfl rfl fun q2 o2 hrow2 => ?_
    try (dsimp only [st, setL, AV.cells, List.set_cons_zero, List.set_cons_succ, List.drop_zero, List.drop_succ_cons, List.take_zero, List.take_succ_cons, Nat.zero_add, Nat.add_zero, Nat.reduceAdd, List.cons_append, List.nil_append, List.eraseIdx_cons_zero, List.eraseIdx_cons_succ])
    refine W ?_
    refine LS_lt [l[y.toNat]] rfl rfl (by decide) rfl rfl rfl rfl enMat4 rfl rfl fun lit4 hlit4 slit4 => ?_
    try (dsimp only [st, setL, AV.cells, List.set_cons_zero, List.set_cons_succ, List.drop_zero, List.drop_succ_cons, List.take_zero, List.take_succ_cons, Nat.zero_add, Nat.add_zero, Nat.reduceAdd, List.cons_append, List.nil_append, List.eraseIdx_cons_zero, List.eraseIdx_cons_succ])
    refine W ?_
    refine LS_ap 1 rfl (fun h' HL => HL.rdI 0 rfl enMat4 (by decide)) enMat4 (by decide) (by simp) (by simp; omega) (by simp; omega) rfl rfl rfl fun w5 hw5 sw5 => ?_
    try (dsimp only [st, setL, AV.cells, List.set_cons_zero, List.set_cons_succ, List.drop_zero, List.drop_succ_cons, List.take_zero, List.take_succ_cons, Nat.zero_add, Nat.add_zero, Nat.reduceAdd, List.cons_append, List.nil_append, List.eraseIdx_cons_zero, List.eraseIdx_cons_succ])
    refine W ?_
    refine LIL_drop 1 ?_
    refine IH (n - 1) _ _ (by omega) ⟨i + 1, _, exJ rfl, by rw [e]; rfl, by omega, by omega⟩
  · have ei : i.toNat = p.outs.length := by omega
    rw [ei, List.take_length]
    refine RET fun h' HL => ?_
    try dsimp only [oneA]
    exact HL.ownI 0 rfl enMat4 (by decide)

def resOk (m : Int) (l : List Int) : Bool := decide (2 ≤ m ∧ m ≤ 10000) && l.all (fun x => decide (0 ≤ x ∧ x ≤ m - 1))

theorem outs_in {α : Type} {F : α → α → α} {p : PlanM} (hk : planOk p = true) {l : List α} (hn : (l.length : Int) = p.n) : ∀ i ∈ p.outs, 0 ≤ i ∧ i < (runM F p.steps l).length := by
  obtain ⟨h1, h2, h3, h4, hf, h6⟩ := planOk_out hk
  intro i hi
  have := of_decide_eq_true (List.all_eq_true.1 h6 i hi)
  have e := runM_len (F := F) (by omega) p.steps 0 l hf (by omega)
  omega

/-! ### Lists of matrices -/
theorem szMatS_ac (l : List MatM) (v : AV) (k : Int) (h : AH) (hR : RdG 4 enMat h v l) (hk : 0 ≤ k) (hk1 : k ≤ 1048576) (hl : l.length ≤ 9223372036854775807) :
    AC Try.prog 46 [v, .i .i64 k] h (fun r h' => r = .i .i64 (if k - l.length < 0 then -1 else k - l.length) ∧ h.le h') := by
  refine e46 _ _ fun wf => ?_
  unfold c46
  refine LI_start wf ?_
  refine W ?_
  (first | refine LS_gt rfl ?_ ?_ | refine LS_gf rfl ?_ ?_ | refine LI_cond rfl ?_ ?_) <;> intro hc <;> have hc' := hc <;> try simp only [decide_eq_true_eq, decide_eq_false_iff_not, Bool.not_eq_true', Bool.not_eq_false', Bool.not_eq_true, Bool.not_eq_false, beq_iff_eq, bne_iff_ne, beq_eq_false_iff_ne, bne_eq_false_iff_eq, Int.not_lt, Int.not_le, ge_iff_le, gt_iff_lt, not_and, ne_eq, Decidable.not_not] at hc'
  all_goals (try (dsimp only [st, setL, AV.cells, List.set_cons_zero, List.set_cons_succ, List.drop_zero, List.drop_succ_cons, List.take_zero, List.take_succ_cons, Nat.zero_add, Nat.add_zero, Nat.reduceAdd, List.cons_append, List.nil_append, List.eraseIdx_cons_zero, List.eraseIdx_cons_succ]))
  all_goals (refine W ?_)
  · refine RET fun h' HL => ?_
    try dsimp only [oneA]
    exact ⟨by rw [if_pos hc'], HL.le⟩
  · refine RET fun h' HL => ?_
    try dsimp only [oneA]
    exact ⟨by rw [if_neg (by omega)], HL.le⟩

theorem szPlanB_ac (p : PlanM) (v : AV) (k : Int) (h : AH) (hR : PlR h v p) (hk : 0 ≤ k) (hk1 : k ≤ 1048576) (hl : p.steps.length ≤ 9223372036854775807) (hl2 : p.outs.length ≤ 9223372036854775807) :
    AC Try.prog 20 [v, .i .i64 k] h (fun r h' => (∃ z, r = .i .i64 z ∧ z ≤ k ∧ (0 ≤ z → p.steps.length + p.outs.length ≤ k)) ∧ h.le h') := by
  obtain ⟨vs, vo, rfl, hs, ho⟩ := hR
  refine e20 _ _ fun wf => ?_
  unfold c20
  refine LI_start wf ?_
  refine W ?_
  refine LS_bxn rfl (sc_cons rfl (sc_cons (rd_sc hs) (sc_cons (rd_sc ho) rfl))) fun b1 => ?_
  try (dsimp only [st, setL, AV.cells, List.set_cons_zero, List.set_cons_succ, List.drop_zero, List.drop_succ_cons, List.take_zero, List.take_succ_cons, Nat.zero_add, Nat.add_zero, Nat.reduceAdd, List.cons_append, List.nil_append, List.eraseIdx_cons_zero, List.eraseIdx_cons_succ])
  refine W ?_
  refine LS_c0 (fun h' HL wf => szStepS_ac p.steps vs k h' (hs.le HL.le) hk hk1 hl) rfl rfl ?_
  try (dsimp only [st, setL, AV.cells, List.set_cons_zero, List.set_cons_succ, List.drop_zero, List.drop_succ_cons, List.take_zero, List.take_succ_cons, Nat.zero_add, Nat.add_zero, Nat.reduceAdd, List.cons_append, List.nil_append, List.eraseIdx_cons_zero, List.eraseIdx_cons_succ])
  refine W ?_
  (first | refine LS_gt rfl ?_ ?_ | refine LS_gf rfl ?_ ?_ | refine LI_cond rfl ?_ ?_) <;> intro hc <;> have hc' := hc <;> try simp only [decide_eq_true_eq, decide_eq_false_iff_not, Bool.not_eq_true', Bool.not_eq_false', Bool.not_eq_true, Bool.not_eq_false, beq_iff_eq, bne_iff_ne, beq_eq_false_iff_ne, bne_eq_false_iff_eq, Int.not_lt, Int.not_le, ge_iff_le, gt_iff_lt, not_and, ne_eq, Decidable.not_not] at hc'
  all_goals (try (dsimp only [st, setL, AV.cells, List.set_cons_zero, List.set_cons_succ, List.drop_zero, List.drop_succ_cons, List.take_zero, List.take_succ_cons, Nat.zero_add, Nat.add_zero, Nat.reduceAdd, List.cons_append, List.nil_append, List.eraseIdx_cons_zero, List.eraseIdx_cons_succ]))
  all_goals (refine W ?_)
  · refine RET fun h' HL => ?_
    try dsimp only [oneA]
    exact ⟨⟨_, rfl, by first | omega | (split <;> omega), fun e => by omega⟩, HL.le⟩
  · have hn : ¬ (k - (p.steps.length : Int) < 0) := fun e => by rw [if_pos e] at hc'; omega
    rw [if_neg hn]
    refine LS_c0' (fun h' HL wf => szIntS_ac p.outs vo (k - p.steps.length) h' (ho.le HL.le) (by omega) (by omega) hl2) rfl rfl ?_
    try (dsimp only [st, setL, AV.cells, List.set_cons_zero, List.set_cons_succ, List.drop_zero, List.drop_succ_cons, List.take_zero, List.take_succ_cons, Nat.zero_add, Nat.add_zero, Nat.reduceAdd, List.cons_append, List.nil_append, List.eraseIdx_cons_zero, List.eraseIdx_cons_succ])
    refine W ?_
    (first | refine LS_gt rfl ?_ ?_ | refine LS_gf rfl ?_ ?_ | refine LI_cond rfl ?_ ?_) <;> intro hc <;> have hc' := hc <;> try simp only [decide_eq_true_eq, decide_eq_false_iff_not, Bool.not_eq_true', Bool.not_eq_false', Bool.not_eq_true, Bool.not_eq_false, beq_iff_eq, bne_iff_ne, beq_eq_false_iff_ne, bne_eq_false_iff_eq, Int.not_lt, Int.not_le, ge_iff_le, gt_iff_lt, not_and, ne_eq, Decidable.not_not] at hc'
    all_goals (try (dsimp only [st, setL, AV.cells, List.set_cons_zero, List.set_cons_succ, List.drop_zero, List.drop_succ_cons, List.take_zero, List.take_succ_cons, Nat.zero_add, Nat.add_zero, Nat.reduceAdd, List.cons_append, List.nil_append, List.eraseIdx_cons_zero, List.eraseIdx_cons_succ]))
    all_goals (refine W ?_)
    · refine RET fun h' HL => ?_
      try dsimp only [oneA]
      exact ⟨⟨_, rfl, by first | omega | (split <;> omega), fun e => by omega⟩, HL.le⟩
    · have hn : ¬ (k - (p.steps.length : Int) - (p.outs.length : Int) < 0) := fun e => by rw [if_pos e] at hc'; omega
      refine RET fun h' HL => ?_
      try dsimp only [oneA]
      exact ⟨⟨_, rfl, by first | omega | (split <;> omega), fun e => by omega⟩, HL.le⟩

theorem put_mat {l : List MatM} {i : Nat} {y : MatM} (hi : i < l.length) (hy : l[i]? = some y) : (l.take i ++ List.replicate (l.length - i) (⟨0, 0, 0, 0⟩ : MatM)).set i y = l.take (i + 1) ++ List.replicate (l.length - (i + 1)) ⟨0, 0, 0, 0⟩ := by
  have h1 : (l.take i).length = i := by simp; omega
  rw [List.set_append_right _ _ (by omega), h1, Nat.sub_self, show l.length - i = (l.length - (i + 1)) + 1 by omega, List.replicate_succ, List.set_cons_zero, take_snoc hy]
  simp

theorem toMatS_ac (l : List MatM) (v : AV) (h : AH) (hR : RdG 4 enMat h v l) (hl : l.length ≤ 1048576) :
    AC Try.prog 48 [v] h (fun r h' => Own h 4 enMat h' r l) := by
  refine e48 _ fun wf => ?_
  unfold c48
  refine LI_start wf ?_
  refine W ?_
  refine LS_mk2 (⟨0, 0, 0, 0⟩ : MatM) rfl (by decide) rfl rfl rfl rfl (by omega) (by omega) (by omega) enMat4 rfl fun b1 => ?_
  try (dsimp only [st, setL, AV.cells, List.set_cons_zero, List.set_cons_succ, List.drop_zero, List.drop_succ_cons, List.take_zero, List.take_succ_cons, Nat.zero_add, Nat.add_zero, Nat.reduceAdd, List.cons_append, List.nil_append, List.eraseIdx_cons_zero, List.eraseIdx_cons_succ])
  refine W ?_
  refine LIL_ind (fun n a L => ∃ (i : Int), (∃ r : Nat → AV, a = [v, r 1, r 2, .sl b1 0 l.length true, .i .i64 i, r 5, r 6, r 7, r 8, r 9, r 10, r 11, r 12, r 13, r 14, r 15, r 16, r 17, r 18, r 19, r 20, r 21, r 22]) ∧ L = [.sl (.sl b1 0 l.length true) 4 ((l.take i.toNat ++ List.replicate (l.length - i.toNat) (⟨0, 0, 0, 0⟩ : MatM)).flatMap enMat)] ∧ 0 ≤ i ∧ i + n = l.length)
    l.length ⟨0, exJ rfl, rfl, by omega, by omega⟩ ?_
  rintro n a L ⟨i, ⟨r, rfl⟩, rfl, h0, hn⟩ IH
  refine W ?_
  (first | refine LS_gt rfl ?_ ?_ | refine LS_gf rfl ?_ ?_ | refine LI_cond rfl ?_ ?_) <;> intro hc <;> have hc' := hc <;> try simp only [decide_eq_true_eq, decide_eq_false_iff_not, Bool.not_eq_true', Bool.not_eq_false', Bool.not_eq_true, Bool.not_eq_false, beq_iff_eq, bne_iff_ne, beq_eq_false_iff_ne, bne_eq_false_iff_eq, Int.not_lt, Int.not_le, ge_iff_le, gt_iff_lt, not_and, ne_eq, Decidable.not_not] at hc'
  all_goals (try (dsimp only [st, setL, AV.cells, List.set_cons_zero, List.set_cons_succ, List.drop_zero, List.drop_succ_cons, List.take_zero, List.take_succ_cons, Nat.zero_add, Nat.add_zero, Nat.reduceAdd, List.cons_append, List.nil_append, List.eraseIdx_cons_zero, List.eraseIdx_cons_succ]))
  all_goals (refine W ?_)
  · obtain ⟨y, hy, _, _⟩ := drop_at h0 hc'
    refine LS_ix (fun h' HL => hR.le HL.le) enMat4 hy h0 rfl rfl fun b o hrow => ?_
    try (dsimp only [st, setL, AV.cells, List.set_cons_zero, List.set_cons_succ, List.drop_zero, List.drop_succ_cons, List.take_zero, List.take_succ_cons, Nat.zero_add, Nat.add_zero, Nat.reduceAdd, List.cons_append, List.nil_append, List.eraseIdx_cons_zero, List.eraseIdx_cons_succ])
    refine W ?_
    refine LS_c0 (fun h' HL wf => toMatrix_ac y h') rfl rfl ?_
    try (dsimp only [st, setL, AV.cells, List.set_cons_zero, List.set_cons_succ, List.drop_zero, List.drop_succ_cons, List.take_zero, List.take_succ_cons, Nat.zero_add, Nat.add_zero, Nat.reduceAdd, List.cons_append, List.nil_append, List.eraseIdx_cons_zero, List.eraseIdx_cons_succ])
    refine W ?_
    refine LS_is h0 hc' rfl rfl ?_
    try (dsimp only [st, setL, AV.cells, List.set_cons_zero, List.set_cons_succ, List.drop_zero, List.drop_succ_cons, List.take_zero, List.take_succ_cons, Nat.zero_add, Nat.add_zero, Nat.reduceAdd, List.cons_append, List.nil_append, List.eraseIdx_cons_zero, List.eraseIdx_cons_succ])
    refine W ?_
    refine LS_ss y 0 i.toNat rfl (by simp; omega) (by omega) rfl enMat4 (by decide) rfl rfl rfl ?_
    try (dsimp only [st, setL, AV.cells, List.set_cons_zero, List.set_cons_succ, List.drop_zero, List.drop_succ_cons, List.take_zero, List.take_succ_cons, Nat.zero_add, Nat.add_zero, Nat.reduceAdd, List.cons_append, List.nil_append, List.eraseIdx_cons_zero, List.eraseIdx_cons_succ])
    refine W ?_
    refine IH (n - 1) _ _ (by omega) ⟨i + 1, exJ rfl, by rw [toNat_succ h0, put_mat (by omega) hy], by omega, by omega⟩
  · have e : i.toNat = l.length := by omega
    refine RET fun h' HL => ?_
    try dsimp only [oneA]
    have hO := HL.ownI 0 rfl enMat4 (by decide)
    rw [e] at hO
    simpa using hO

theorem eqMatS_ac (l l' : List MatM) (v v' : AV) (h : AH) (hR : RdG 4 enMat h v l) (hR' : RdG 4 enMat h v' l') (hl : l.length ≤ 4611686018427387904) :
    AC Try.prog 50 [v, v'] h (fun r h' => r = .b (decide (l = l')) ∧ h.le h') := by
  refine e50 _ _ fun wf => ?_
  unfold c50
  refine LI_start wf ?_
  refine W ?_
  (first | refine LS_gt rfl ?_ ?_ | refine LS_gf rfl ?_ ?_ | refine LI_cond rfl ?_ ?_) <;> intro hc <;> have hc' := hc <;> try simp only [decide_eq_true_eq, decide_eq_false_iff_not, Bool.not_eq_true', Bool.not_eq_false', Bool.not_eq_true, Bool.not_eq_false, beq_iff_eq, bne_iff_ne, beq_eq_false_iff_ne, bne_eq_false_iff_eq, Int.not_lt, Int.not_le, ge_iff_le, gt_iff_lt, not_and, ne_eq, Decidable.not_not] at hc'
  all_goals (try (dsimp only [st, setL, AV.cells, List.set_cons_zero, List.set_cons_succ, List.drop_zero, List.drop_succ_cons, List.take_zero, List.take_succ_cons, Nat.zero_add, Nat.add_zero, Nat.reduceAdd, List.cons_append, List.nil_append, List.eraseIdx_cons_zero, List.eraseIdx_cons_succ]))
  all_goals (refine W ?_)
  · refine RET fun h' HL => ?_
    try dsimp only [oneA]
    refine ⟨?_, HL.le⟩
    simp only [oneA, AV.b.injEq]
    symm
    simp only [decide_eq_false_iff_not]
    rintro rfl
    exact hc' rfl
  · have hlen : l.length = l'.length := by omega
    refine LIL_ind (fun n a L => ∃ (i : Int), (∃ r : Nat → AV, a = [v, v', r 2, r 3, r 4, .i .i64 i, r 6, r 7, r 8, r 9, r 10, r 11, r 12, r 13, r 14, r 15, r 16, r 17, r 18, r 19, r 20, r 21, r 22, r 23, r 24, r 25, r 26]) ∧ L = [] ∧ 0 ≤ i ∧ i + n = l.length ∧ l.take i.toNat = l'.take i.toNat)
      l.length ⟨0, exJ rfl, rfl, by omega, by omega, by simp⟩ ?_
    rintro n a L ⟨i, ⟨r, rfl⟩, rfl, h0, hn, heq⟩ IH
    refine W ?_
    (first | refine LS_gt rfl ?_ ?_ | refine LS_gf rfl ?_ ?_ | refine LI_cond rfl ?_ ?_) <;> intro hc <;> have hc' := hc <;> try simp only [decide_eq_true_eq, decide_eq_false_iff_not, Bool.not_eq_true', Bool.not_eq_false', Bool.not_eq_true, Bool.not_eq_false, beq_iff_eq, bne_iff_ne, beq_eq_false_iff_ne, bne_eq_false_iff_eq, Int.not_lt, Int.not_le, ge_iff_le, gt_iff_lt, not_and, ne_eq, Decidable.not_not] at hc'
    all_goals (try (dsimp only [st, setL, AV.cells, List.set_cons_zero, List.set_cons_succ, List.drop_zero, List.drop_succ_cons, List.take_zero, List.take_succ_cons, Nat.zero_add, Nat.add_zero, Nat.reduceAdd, List.cons_append, List.nil_append, List.eraseIdx_cons_zero, List.eraseIdx_cons_succ]))
    all_goals (refine W ?_)
    · obtain ⟨y, hy, _, _⟩ := drop_at h0 hc'
      obtain ⟨y', hy', _, _⟩ := drop_at (l := l') h0 (by omega)
      refine dz50_0 ?_
      refine WX ?_
      refine W ?_
      refine LX_ix (fun h' HL => hR.le HL.le) enMat4 hy h0 rfl rfl noG fun b o hrow => ?_
      try (dsimp only [st, setL, AV.cells, List.set_cons_zero, List.set_cons_succ, List.drop_zero, List.drop_succ_cons, List.take_zero, List.take_succ_cons, Nat.zero_add, Nat.add_zero, Nat.reduceAdd, List.cons_append, List.nil_append, List.eraseIdx_cons_zero, List.eraseIdx_cons_succ])
      refine WX ?_
      refine W ?_
      refine LX_ix (fun h' HL => hR'.le HL.le) enMat4 hy' h0 rfl rfl noG fun b' o' hrow' => ?_
      try (dsimp only [st, setL, AV.cells, List.set_cons_zero, List.set_cons_succ, List.drop_zero, List.drop_succ_cons, List.take_zero, List.take_succ_cons, Nat.zero_add, Nat.add_zero, Nat.reduceAdd, List.cons_append, List.nil_append, List.eraseIdx_cons_zero, List.eraseIdx_cons_succ])
      refine WX ?_
      refine W ?_
      refine LX_c0 (fun h' HL wf => eqMatrix_ac y y' h'.frz) rfl rfl noG ?_
      try (dsimp only [st, setL, AV.cells, List.set_cons_zero, List.set_cons_succ, List.drop_zero, List.drop_succ_cons, List.take_zero, List.take_succ_cons, Nat.zero_add, Nat.add_zero, Nat.reduceAdd, List.cons_append, List.nil_append, List.eraseIdx_cons_zero, List.eraseIdx_cons_succ])
      refine WX ?_
      refine W ?_
      (first | refine LS_gt rfl ?_ ?_ | refine LS_gf rfl ?_ ?_ | refine LI_cond rfl ?_ ?_) <;> intro hc <;> have hc' := hc <;> try simp only [decide_eq_true_eq, decide_eq_false_iff_not, Bool.not_eq_true', Bool.not_eq_false', Bool.not_eq_true, Bool.not_eq_false, beq_iff_eq, bne_iff_ne, beq_eq_false_iff_ne, bne_eq_false_iff_eq, Int.not_lt, Int.not_le, ge_iff_le, gt_iff_lt, not_and, ne_eq, Decidable.not_not] at hc'
      all_goals (try (dsimp only [st, setL, AV.cells, List.set_cons_zero, List.set_cons_succ, List.drop_zero, List.drop_succ_cons, List.take_zero, List.take_succ_cons, Nat.zero_add, Nat.add_zero, Nat.reduceAdd, List.cons_append, List.nil_append, List.eraseIdx_cons_zero, List.eraseIdx_cons_succ]))
      all_goals (refine W ?_)
      · refine RET fun h' HL => ?_
        try dsimp only [oneA]
        refine ⟨?_, HL.le⟩
        have hne := of_decide_eq_false (nt hc)
        simp only [oneA, AV.b.injEq]
        symm
        simp only [decide_eq_false_iff_not]
        intro e
        exact hne (Option.some.inj (by rw [← hy, ← hy', e]))
      · have he := of_decide_eq_true (nf hc)
        refine IH (n - 1) _ _ (by omega) ⟨i + 1, exJ rfl, rfl, by omega, by omega, ?_⟩
        rw [toNat_succ h0, take_snoc hy, take_snoc hy', heq, he]
    · refine RET fun h' HL => ?_
      try dsimp only [oneA]
      refine ⟨?_, HL.le⟩
      have e : i.toNat = l.length := by omega
      rw [e] at heq
      rw [List.take_length, hlen, List.take_length] at heq
      simp [oneA, heq]

theorem eqMatS_same (l : List MatM) (v v' : AV) (h : AH) (hR : RdG 4 enMat h v l) (hR' : RdG 4 enMat h v' l) (hl : l.length ≤ 4611686018427387904) :
    AC Try.prog 50 [v, v'] h (fun r h' => r = .b true ∧ h.le h') := (eqMatS_ac l l v v' h hR hR' hl).mono fun r h' H => by simpa using H

def markQ : Int → Nat → List MatM
  | _, 0 => []
  | k, n + 1 => ⟨k, k + 1, k + 2, k + 3⟩ :: markQ (k + 4) n

theorem markQ_len : ∀ (n : Nat) (k : Int), (markQ k n).length = n
  | 0, _ => rfl
  | n + 1, k => by simp [markQ, markQ_len n]

theorem markQ_get : ∀ (n : Nat) (k : Int) (i : Nat), i < n → (markQ k n)[i]? = some ⟨k + 4 * i, k + 4 * i + 1, k + 4 * i + 2, k + 4 * i + 3⟩
  | 0, _, i, h => by omega
  | n + 1, k, 0, _ => by simp [markQ]
  | n + 1, k, i + 1, h => by
    simp only [markQ, List.getElem?_cons_succ]
    rw [markQ_get n (k + 4) i (by omega)]
    congr 2 <;> omega

theorem markQ_set {l : List MatM} {k : Int} {i : Nat} (hi' : i < l.length) : (markQ k i ++ l.drop i).set i ⟨k + 4 * i, k + 4 * i + 1, k + 4 * i + 2, k + 4 * i + 3⟩ = markQ k (i + 1) ++ l.drop (i + 1) := by
  have hi := markQ_len i k
  have hi1 := markQ_len (i + 1) k
  apply List.ext_getElem?
  intro j
  by_cases e : i = j
  · subst e
    rw [List.getElem?_set_self (by simp [hi]; omega), List.getElem?_append_left (by omega), markQ_get (i + 1) k i (by omega)]
  · rw [List.getElem?_set_ne e]
    by_cases hlt : j < i
    · rw [List.getElem?_append_left (by omega), List.getElem?_append_left (by omega), markQ_get i k j hlt, markQ_get (i + 1) k j (by omega)]
    · rw [List.getElem?_append_right (by omega), List.getElem?_append_right (by omega), hi, hi1, List.getElem?_drop, List.getElem?_drop]
      congr 1
      omega

theorem markMatSL_ac (l : List MatM) (v : AV) (k : Int) (h0 h : AH) (L : List It) (HL : Loq h0 h (.sl v 4 (l.flatMap enMat) :: L)) (hk0 : 0 ≤ k) (hk1 : k + 4 * l.length ≤ 4611686018427387904) :
    AC Try.prog 51 [v, .i .i64 k] h (fun r h' => ∃ M, (r = .i .i64 (k + 4 * l.length) ∧ M = .sl v 4 ((markQ k l.length).flatMap enMat) :: L) ∧ Loq h0 h' M) := by
  have hlv := (HL.rdI 0 rfl enMat4 (by decide)).len
  refine e51 _ _ fun wf => ?_
  unfold c51
  refine LI_startL HL ?_
  refine W ?_
  refine LIL_ind (fun n a M => ∃ (i kk : Int), (∃ r : Nat → AV, a = [v, .i .i64 kk, r 2, r 3, r 4, .i .i64 i, r 6, r 7, r 8, r 9, r 10, r 11, r 12, r 13, r 14, r 15, r 16, r 17, r 18, r 19, r 20, r 21, r 22, r 23, r 24, r 25, r 26, r 27, r 28, r 29, r 30, r 31, r 32, r 33, r 34, r 35, r 36, r 37, r 38, r 39, r 40]) ∧ M = .sl v 4 ((markQ k i.toNat ++ l.drop i.toNat).flatMap enMat) :: L ∧ 0 ≤ i ∧ i + n = l.length ∧ kk = k + 4 * i)
    l.length ⟨0, k, exJ rfl, by simp [markQ], by omega, by omega, by omega⟩ ?_
  rintro n a M ⟨i, kk, ⟨r, rfl⟩, rfl, h0', hn, rfl⟩ IH
  have hlen : (markQ k i.toNat ++ l.drop i.toNat).length = l.length := by simp [markQ_len]; omega
  refine W ?_
  (first | refine LS_gt rfl ?_ ?_ | refine LS_gf rfl ?_ ?_ | refine LI_cond rfl ?_ ?_) <;> intro hc <;> have hc' := hc <;> try simp only [decide_eq_true_eq, decide_eq_false_iff_not, Bool.not_eq_true', Bool.not_eq_false', Bool.not_eq_true, Bool.not_eq_false, beq_iff_eq, bne_iff_ne, beq_eq_false_iff_ne, bne_eq_false_iff_eq, Int.not_lt, Int.not_le, ge_iff_le, gt_iff_lt, not_and, ne_eq, Decidable.not_not] at hc'
  all_goals (try (dsimp only [st, setL, AV.cells, List.set_cons_zero, List.set_cons_succ, List.drop_zero, List.drop_succ_cons, List.take_zero, List.take_succ_cons, Nat.zero_add, Nat.add_zero, Nat.reduceAdd, List.cons_append, List.nil_append, List.eraseIdx_cons_zero, List.eraseIdx_cons_succ]))
  all_goals (refine W ?_)
  · obtain ⟨b, o, c, rfl⟩ := sl_of hlv (by omega)
    obtain ⟨y, hy, _, _⟩ := drop_at (l := l) h0' hc'
    have hy1 : (markQ k i.toNat ++ l.drop i.toNat)[i.toNat]? = some y := by rw [List.getElem?_append_right (by rw [markQ_len]; omega), markQ_len, Nat.sub_self, List.getElem?_drop]; simpa using hy
    have hz : k + 4 * i = k + 4 * (i.toNat : Int) := by omega
    have hms := markQ_set (l := l) (k := k) (i := i.toNat) (by omega)
    rw [← hz] at hms
    generalize markQ k i.toNat ++ l.drop i.toNat = Z at *
    refine LS_is h0' hc' rfl rfl ?_
    try (dsimp only [st, setL, AV.cells, List.set_cons_zero, List.set_cons_succ, List.drop_zero, List.drop_succ_cons, List.take_zero, List.take_succ_cons, Nat.zero_add, Nat.add_zero, Nat.reduceAdd, List.cons_append, List.nil_append, List.eraseIdx_cons_zero, List.eraseIdx_cons_succ])
    refine W ?_
    refine LS_sf (⟨k + 4 * i, y.b, y.c, y.d⟩ : MatM) 0 i.toNat 0 rfl hy1 (by decide) rfl rfl enMat4 (by decide) rfl rfl rfl ?_
    try (dsimp only [st, setL, AV.cells, List.set_cons_zero, List.set_cons_succ, List.drop_zero, List.drop_succ_cons, List.take_zero, List.take_succ_cons, Nat.zero_add, Nat.add_zero, Nat.reduceAdd, List.cons_append, List.nil_append, List.eraseIdx_cons_zero, List.eraseIdx_cons_succ])
    refine W ?_
    have hy2 : (Z.set i.toNat (⟨k + 4 * i, y.b, y.c, y.d⟩ : MatM))[i.toNat]? = some ⟨k + 4 * i, y.b, y.c, y.d⟩ := List.getElem?_set_self (by omega)
    refine LS_is h0' hc' rfl rfl ?_
    try (dsimp only [st, setL, AV.cells, List.set_cons_zero, List.set_cons_succ, List.drop_zero, List.drop_succ_cons, List.take_zero, List.take_succ_cons, Nat.zero_add, Nat.add_zero, Nat.reduceAdd, List.cons_append, List.nil_append, List.eraseIdx_cons_zero, List.eraseIdx_cons_succ])
    refine W ?_
    refine LS_sf (⟨k + 4 * i, k + 4 * i + 1, y.c, y.d⟩ : MatM) 0 i.toNat 1 rfl hy2 (by decide) rfl rfl enMat4 (by decide) rfl rfl rfl ?_
    try (dsimp only [st, setL, AV.cells, List.set_cons_zero, List.set_cons_succ, List.drop_zero, List.drop_succ_cons, List.take_zero, List.take_succ_cons, Nat.zero_add, Nat.add_zero, Nat.reduceAdd, List.cons_append, List.nil_append, List.eraseIdx_cons_zero, List.eraseIdx_cons_succ])
    refine W ?_
    rw [List.set_set]
    have hy3 : (Z.set i.toNat (⟨k + 4 * i, k + 4 * i + 1, y.c, y.d⟩ : MatM))[i.toNat]? = some ⟨k + 4 * i, k + 4 * i + 1, y.c, y.d⟩ := List.getElem?_set_self (by omega)
    refine LS_is h0' hc' rfl rfl ?_
    try (dsimp only [st, setL, AV.cells, List.set_cons_zero, List.set_cons_succ, List.drop_zero, List.drop_succ_cons, List.take_zero, List.take_succ_cons, Nat.zero_add, Nat.add_zero, Nat.reduceAdd, List.cons_append, List.nil_append, List.eraseIdx_cons_zero, List.eraseIdx_cons_succ])
    refine W ?_
    refine LS_sf (⟨k + 4 * i, k + 4 * i + 1, k + 4 * i + 2, y.d⟩ : MatM) 0 i.toNat 2 rfl hy3 (by decide) rfl (by simp only [Int.add_assoc]; rfl) enMat4 (by decide) rfl rfl rfl ?_
    try (dsimp only [st, setL, AV.cells, List.set_cons_zero, List.set_cons_succ, List.drop_zero, List.drop_succ_cons, List.take_zero, List.take_succ_cons, Nat.zero_add, Nat.add_zero, Nat.reduceAdd, List.cons_append, List.nil_append, List.eraseIdx_cons_zero, List.eraseIdx_cons_succ])
    refine W ?_
    rw [List.set_set]
    have hy4 : (Z.set i.toNat (⟨k + 4 * i, k + 4 * i + 1, k + 4 * i + 2, y.d⟩ : MatM))[i.toNat]? = some ⟨k + 4 * i, k + 4 * i + 1, k + 4 * i + 2, y.d⟩ := List.getElem?_set_self (by omega)
    refine LS_is h0' hc' rfl rfl ?_
    try (dsimp only [st, setL, AV.cells, List.set_cons_zero, List.set_cons_succ, List.drop_zero, List.drop_succ_cons, List.take_zero, List.take_succ_cons, Nat.zero_add, Nat.add_zero, Nat.reduceAdd, List.cons_append, List.nil_append, List.eraseIdx_cons_zero, List.eraseIdx_cons_succ])
    refine W ?_
    refine LS_sf (⟨k + 4 * i, k + 4 * i + 1, k + 4 * i + 2, k + 4 * i + 3⟩ : MatM) 0 i.toNat 3 rfl hy4 (by decide) rfl (by simp only [Int.add_assoc]; rfl) enMat4 (by decide) rfl rfl rfl ?_
    try (dsimp only [st, setL, AV.cells, List.set_cons_zero, List.set_cons_succ, List.drop_zero, List.drop_succ_cons, List.take_zero, List.take_succ_cons, Nat.zero_add, Nat.add_zero, Nat.reduceAdd, List.cons_append, List.nil_append, List.eraseIdx_cons_zero, List.eraseIdx_cons_succ])
    refine W ?_
    rw [List.set_set, hms]
    refine IH (n - 1) _ _ (by omega) ⟨i + 1, _, exJ rfl, by rw [toNat_succ h0'], by omega, by omega, by omega⟩
  · have e : i.toNat = l.length := by omega
    rw [e, List.drop_length, List.append_nil]
    refine RET fun h' HL => ?_
    try dsimp only [oneA]
    exact ⟨_, ⟨by rw [show i = (l.length : Int) by omega], rfl⟩, HL⟩

theorem heldMatSL_ac (n : Nat) (v : AV) (k : Int) (h : AH) (hR : RdG 4 enMat h v (markQ k n)) (hk0 : 0 ≤ k) (hk1 : k + 4 * n ≤ 4611686018427387904) :
    AC Try.prog 52 [v, .i .i64 k] h (fun r h' => r = .i .i64 (k + 4 * n) ∧ h.le h') := by
  have hlen := hR.len
  rw [markQ_len] at hlen
  refine e52 _ _ fun wf => ?_
  unfold c52
  refine LI_start wf ?_
  refine W ?_
  refine LIL_ind (fun m a L => ∃ (i kk : Int), (∃ r : Nat → AV, a = [v, .i .i64 kk, r 2, r 3, r 4, .i .i64 i, r 6, r 7, r 8, r 9, r 10, r 11, r 12, r 13, r 14, r 15, r 16, r 17, r 18, r 19, r 20, r 21, r 22, r 23, r 24, r 25, r 26, r 27, r 28, r 29, r 30, r 31, r 32, r 33, r 34, r 35, r 36, r 37, r 38, r 39, r 40, r 41, r 42, r 43, r 44, r 45, r 46, r 47, r 48]) ∧ L = [] ∧ 0 ≤ i ∧ i + m = n ∧ kk = k + 4 * i)
    n ⟨0, k, exJ rfl, rfl, by omega, by omega, by omega⟩ ?_
  rintro m a L ⟨i, kk, ⟨r, rfl⟩, rfl, h0', hn, rfl⟩ IH
  refine W ?_
  (first | refine LS_gt rfl ?_ ?_ | refine LS_gf rfl ?_ ?_ | refine LI_cond rfl ?_ ?_) <;> intro hc <;> have hc' := hc <;> try simp only [decide_eq_true_eq, decide_eq_false_iff_not, Bool.not_eq_true', Bool.not_eq_false', Bool.not_eq_true, Bool.not_eq_false, beq_iff_eq, bne_iff_ne, beq_eq_false_iff_ne, bne_eq_false_iff_eq, Int.not_lt, Int.not_le, ge_iff_le, gt_iff_lt, not_and, ne_eq, Decidable.not_not] at hc'
  all_goals (try (dsimp only [st, setL, AV.cells, List.set_cons_zero, List.set_cons_succ, List.drop_zero, List.drop_succ_cons, List.take_zero, List.take_succ_cons, Nat.zero_add, Nat.add_zero, Nat.reduceAdd, List.cons_append, List.nil_append, List.eraseIdx_cons_zero, List.eraseIdx_cons_succ]))
  all_goals (refine W ?_)
  · have hy := markQ_get n k i.toNat (by omega)
    rw [show k + 4 * (i.toNat : Int) = k + 4 * i by omega] at hy
    refine LS_ix (fun h' HL => hR.le HL.le) enMat4 hy h0' rfl rfl fun b o hrow => ?_
    try (dsimp only [st, setL, AV.cells, List.set_cons_zero, List.set_cons_succ, List.drop_zero, List.drop_succ_cons, List.take_zero, List.take_succ_cons, Nat.zero_add, Nat.add_zero, Nat.reduceAdd, List.cons_append, List.nil_append, List.eraseIdx_cons_zero, List.eraseIdx_cons_succ])
    refine W ?_
    refine LS_lec (j := 0) (o := o) rfl hrow rfl rfl ?_
    try (dsimp only [st, setL, AV.cells, List.set_cons_zero, List.set_cons_succ, List.drop_zero, List.drop_succ_cons, List.take_zero, List.take_succ_cons, Nat.zero_add, Nat.add_zero, Nat.reduceAdd, List.cons_append, List.nil_append, List.eraseIdx_cons_zero, List.eraseIdx_cons_succ])
    refine W ?_
    first | (refine LS_gtnH rfl (by simp) ?_; intro hg; try (dsimp only [st, setL, AV.cells, List.set_cons_zero, List.set_cons_succ, List.drop_zero, List.drop_succ_cons, List.take_zero, List.take_succ_cons, Nat.zero_add, Nat.add_zero, Nat.reduceAdd, List.cons_append, List.nil_append, List.eraseIdx_cons_zero, List.eraseIdx_cons_succ])) | (refine LS_gfnH rfl (by simp) ?_; intro hg; try (dsimp only [st, setL, AV.cells, List.set_cons_zero, List.set_cons_succ, List.drop_zero, List.drop_succ_cons, List.take_zero, List.take_succ_cons, Nat.zero_add, Nat.add_zero, Nat.reduceAdd, List.cons_append, List.nil_append, List.eraseIdx_cons_zero, List.eraseIdx_cons_succ])) | (refine LI_cond_fH rfl (by simp) ?_; intro hg)
    refine W ?_
    refine LS_ix (fun h' HL => hR.le HL.le) enMat4 hy h0' rfl rfl fun b2 o2 hrow2 => ?_
    try (dsimp only [st, setL, AV.cells, List.set_cons_zero, List.set_cons_succ, List.drop_zero, List.drop_succ_cons, List.take_zero, List.take_succ_cons, Nat.zero_add, Nat.add_zero, Nat.reduceAdd, List.cons_append, List.nil_append, List.eraseIdx_cons_zero, List.eraseIdx_cons_succ])
    refine W ?_
    first | (refine LS_gtnH rfl (by simp) ?_; intro hg; try (dsimp only [st, setL, AV.cells, List.set_cons_zero, List.set_cons_succ, List.drop_zero, List.drop_succ_cons, List.take_zero, List.take_succ_cons, Nat.zero_add, Nat.add_zero, Nat.reduceAdd, List.cons_append, List.nil_append, List.eraseIdx_cons_zero, List.eraseIdx_cons_succ])) | (refine LS_gfnH rfl (by simp) ?_; intro hg; try (dsimp only [st, setL, AV.cells, List.set_cons_zero, List.set_cons_succ, List.drop_zero, List.drop_succ_cons, List.take_zero, List.take_succ_cons, Nat.zero_add, Nat.add_zero, Nat.reduceAdd, List.cons_append, List.nil_append, List.eraseIdx_cons_zero, List.eraseIdx_cons_succ])) | (refine LI_cond_fH rfl (by simp) ?_; intro hg)
    refine W ?_
    refine LS_ix (fun h' HL => hR.le HL.le) enMat4 hy h0' rfl rfl fun b3 o3 hrow3 => ?_
    try (dsimp only [st, setL, AV.cells, List.set_cons_zero, List.set_cons_succ, List.drop_zero, List.drop_succ_cons, List.take_zero, List.take_succ_cons, Nat.zero_add, Nat.add_zero, Nat.reduceAdd, List.cons_append, List.nil_append, List.eraseIdx_cons_zero, List.eraseIdx_cons_succ])
    refine W ?_
    first | (refine LS_gtnH rfl (by simp; omega) ?_; intro hg; try (dsimp only [st, setL, AV.cells, List.set_cons_zero, List.set_cons_succ, List.drop_zero, List.drop_succ_cons, List.take_zero, List.take_succ_cons, Nat.zero_add, Nat.add_zero, Nat.reduceAdd, List.cons_append, List.nil_append, List.eraseIdx_cons_zero, List.eraseIdx_cons_succ])) | (refine LS_gfnH rfl (by simp; omega) ?_; intro hg; try (dsimp only [st, setL, AV.cells, List.set_cons_zero, List.set_cons_succ, List.drop_zero, List.drop_succ_cons, List.take_zero, List.take_succ_cons, Nat.zero_add, Nat.add_zero, Nat.reduceAdd, List.cons_append, List.nil_append, List.eraseIdx_cons_zero, List.eraseIdx_cons_succ])) | (refine LI_cond_fH rfl (by simp; omega) ?_; intro hg)
    refine W ?_
    refine LS_ix (fun h' HL => hR.le HL.le) enMat4 hy h0' rfl rfl fun b4 o4 hrow4 => ?_
    try (dsimp only [st, setL, AV.cells, List.set_cons_zero, List.set_cons_succ, List.drop_zero, List.drop_succ_cons, List.take_zero, List.take_succ_cons, Nat.zero_add, Nat.add_zero, Nat.reduceAdd, List.cons_append, List.nil_append, List.eraseIdx_cons_zero, List.eraseIdx_cons_succ])
    refine W ?_
    first | (refine LS_gtnH rfl (by simp; omega) ?_; intro hg; try (dsimp only [st, setL, AV.cells, List.set_cons_zero, List.set_cons_succ, List.drop_zero, List.drop_succ_cons, List.take_zero, List.take_succ_cons, Nat.zero_add, Nat.add_zero, Nat.reduceAdd, List.cons_append, List.nil_append, List.eraseIdx_cons_zero, List.eraseIdx_cons_succ])) | (refine LS_gfnH rfl (by simp; omega) ?_; intro hg; try (dsimp only [st, setL, AV.cells, List.set_cons_zero, List.set_cons_succ, List.drop_zero, List.drop_succ_cons, List.take_zero, List.take_succ_cons, Nat.zero_add, Nat.add_zero, Nat.reduceAdd, List.cons_append, List.nil_append, List.eraseIdx_cons_zero, List.eraseIdx_cons_succ])) | (refine LI_cond_fH rfl (by simp; omega) ?_; intro hg)
    refine W ?_
    refine IH (m - 1) _ _ (by omega) ⟨i + 1, _, exJ rfl, rfl, by omega, by omega, by omega⟩
  · refine RET fun h' HL => ?_
    try dsimp only [oneA]
    exact ⟨by congr 1; omega, HL.le⟩

theorem IndexFunc_Mat_ac (l : List MatM) (v : AV) (g : FuncId) (caps : List AV) (p : MatM → Bool) (h : AH) (hR : RdG 4 enMat h v l) (hl : l.length ≤ 4611686018427387904)
    (hp : Pred Try.prog g caps vMat h p l) :
    AC Try.prog 129 [v, .f g caps] h (fun r h' => r = .i .i64 (idxFrom p l 0) ∧ h.le h') := by
  refine e129 _ _ fun wf => ?_
  unfold c129
  repeat (first | refine AI_seqk fun K hK => ?_ | refine AI_reg ?_ | ((first | refine wmv rfl ?_ | refine wag rfl ?_ | refine war _ rfl rfl rfl (by omega) (by omega) ?_ | refine wbn rfl rfl rfl ?_ | refine wnt rfl ?_ | refine wex rfl rfl ?_ | refine wpt rfl (by first | assumption | with_reducible rfl) rfl ?_ | refine wpf rfl (by first | assumption | with_reducible rfl) rfl ?_ | refine wpb rfl rfl rfl ?_ | refine wmf rfl ?_ | refine wnc rfl ?_ | refine wbq Try.underlying4 rfl rfl _ (.inr ⟨rfl, rfl⟩) ?_ | refine wbq Try.underlying4 rfl rfl _ (.inl ⟨rfl, rfl⟩) ?_); try dsimp only [st, List.set_cons_zero, List.set_cons_succ]) | ((first | refine AS_nil ?_ | refine AI_skip ?_ | refine AI_exit ?_); try simp only [AThen, ABlk, reduceIte, reduceCtorEq]) | ((first | refine hK _ _ ?_ | ((first | clear hK K | clear IH hK K); refine hK _ _ ?_) | ((first | clear hK K | clear IH hK K); (first | clear hK K | clear IH hK K); refine hK _ _ ?_) | ((first | clear hK K | clear IH hK K); (first | clear hK K | clear IH hK K); (first | clear hK K | clear IH hK K); refine hK _ _ ?_)); try (first | clear hK K | clear IH hK K)) | refine AI_cond_t rfl (by first | assumption | with_reducible rfl) ?_ | refine AI_cond_f rfl (by first | assumption | with_reducible rfl) ?_ | refine AS_gy rfl (by first | assumption | with_reducible rfl) ?_ | refine AS_gtn rfl (by first | assumption | with_reducible rfl) ?_ | refine AS_gfn rfl (by first | assumption | with_reducible rfl) ?_ | refine AI_block (AI_loop ?_) | refine AI_block ?_ | refine AI_ret ⟨_, rfl, ?_⟩)
  refine AS_op (OpR_lenA Try.underlying59 rfl hR.len ?_)
  try (dsimp only [st, setL, AV.cells, List.set_cons_zero, List.set_cons_succ, List.drop_zero, List.drop_succ_cons, List.take_zero, List.take_succ_cons, Nat.zero_add, Nat.add_zero, Nat.reduceAdd, List.cons_append, List.nil_append, List.eraseIdx_cons_zero, List.eraseIdx_cons_succ])
  repeat (first | refine AI_seqk fun K hK => ?_ | refine AI_reg ?_ | ((first | refine wmv rfl ?_ | refine wag rfl ?_ | refine war _ rfl rfl rfl (by omega) (by omega) ?_ | refine wbn rfl rfl rfl ?_ | refine wnt rfl ?_ | refine wex rfl rfl ?_ | refine wpt rfl (by first | assumption | with_reducible rfl) rfl ?_ | refine wpf rfl (by first | assumption | with_reducible rfl) rfl ?_ | refine wpb rfl rfl rfl ?_ | refine wmf rfl ?_ | refine wnc rfl ?_ | refine wbq Try.underlying4 rfl rfl _ (.inr ⟨rfl, rfl⟩) ?_ | refine wbq Try.underlying4 rfl rfl _ (.inl ⟨rfl, rfl⟩) ?_); try dsimp only [st, List.set_cons_zero, List.set_cons_succ]) | ((first | refine AS_nil ?_ | refine AI_skip ?_ | refine AI_exit ?_); try simp only [AThen, ABlk, reduceIte, reduceCtorEq]) | ((first | refine hK _ _ ?_ | ((first | clear hK K | clear IH hK K); refine hK _ _ ?_) | ((first | clear hK K | clear IH hK K); (first | clear hK K | clear IH hK K); refine hK _ _ ?_) | ((first | clear hK K | clear IH hK K); (first | clear hK K | clear IH hK K); (first | clear hK K | clear IH hK K); refine hK _ _ ?_)); try (first | clear hK K | clear IH hK K)) | refine AI_cond_t rfl (by first | assumption | with_reducible rfl) ?_ | refine AI_cond_f rfl (by first | assumption | with_reducible rfl) ?_ | refine AS_gy rfl (by first | assumption | with_reducible rfl) ?_ | refine AS_gtn rfl (by first | assumption | with_reducible rfl) ?_ | refine AS_gfn rfl (by first | assumption | with_reducible rfl) ?_ | refine AI_block (AI_loop ?_) | refine AI_block ?_ | refine AI_ret ⟨_, rfl, ?_⟩)
  refine AIL_ind (fun (n : Nat) a h' => ∃ (i : Int) (x5 : AV), (∃ r : Nat → AV, a = [v, .f g caps, un, un, .i .i64 0, x5, v, .i .i64 l.length, .i .i64 i, r 9, r 10, r 11, r 12, r 13, r 14, r 15, r 16, r 17, r 18]) ∧ 0 ≤ i ∧ i + n = l.length ∧ h.le h' ∧ idxFrom p l 0 = idxFrom p (l.drop i.toNat) i)
    ?_ l.length _ _ ⟨0, _, exJ rfl, by omega, by omega, .refl _, rfl⟩
  rintro n a h' ⟨i, x5, ⟨r, rfl⟩, h0, hn, hle, hidx⟩ IH
  repeat (first | refine AI_seqk fun K hK => ?_ | refine AI_reg ?_ | ((first | refine wmv rfl ?_ | refine wag rfl ?_ | refine war _ rfl rfl rfl (by omega) (by omega) ?_ | refine wbn rfl rfl rfl ?_ | refine wnt rfl ?_ | refine wex rfl rfl ?_ | refine wpt rfl (by first | assumption | with_reducible rfl) rfl ?_ | refine wpf rfl (by first | assumption | with_reducible rfl) rfl ?_ | refine wpb rfl rfl rfl ?_ | refine wmf rfl ?_ | refine wnc rfl ?_ | refine wbq Try.underlying4 rfl rfl _ (.inr ⟨rfl, rfl⟩) ?_ | refine wbq Try.underlying4 rfl rfl _ (.inl ⟨rfl, rfl⟩) ?_); try dsimp only [st, List.set_cons_zero, List.set_cons_succ]) | ((first | refine AS_nil ?_ | refine AI_skip ?_ | refine AI_exit ?_); try simp only [AThen, ABlk, reduceIte, reduceCtorEq]) | ((first | refine hK _ _ ?_ | ((first | clear hK K | clear IH hK K); refine hK _ _ ?_) | ((first | clear hK K | clear IH hK K); (first | clear hK K | clear IH hK K); refine hK _ _ ?_) | ((first | clear hK K | clear IH hK K); (first | clear hK K | clear IH hK K); (first | clear hK K | clear IH hK K); refine hK _ _ ?_)); try (first | clear hK K | clear IH hK K)) | refine AI_cond_t rfl (by first | assumption | with_reducible rfl) ?_ | refine AI_cond_f rfl (by first | assumption | with_reducible rfl) ?_ | refine AS_gy rfl (by first | assumption | with_reducible rfl) ?_ | refine AS_gtn rfl (by first | assumption | with_reducible rfl) ?_ | refine AS_gfn rfl (by first | assumption | with_reducible rfl) ?_ | refine AI_block (AI_loop ?_) | refine AI_block ?_ | refine AI_ret ⟨_, rfl, ?_⟩)
  (first | refine AS_gt rfl ?_ ?_ | refine AS_gf rfl ?_ ?_ | refine AI_cond rfl ?_ ?_) <;> intro hc <;> have hc' := hc <;> try simp only [decide_eq_true_eq, decide_eq_false_iff_not, Bool.not_eq_true', Bool.not_eq_false', Bool.not_eq_true, Bool.not_eq_false, beq_iff_eq, bne_iff_ne, beq_eq_false_iff_ne, bne_eq_false_iff_eq, Int.not_lt, Int.not_le, ge_iff_le, gt_iff_lt, not_and, ne_eq, Decidable.not_not] at hc'
  all_goals
    repeat (first | refine AI_seqk fun K hK => ?_ | refine AI_reg ?_ | ((first | refine wmv rfl ?_ | refine wag rfl ?_ | refine war _ rfl rfl rfl (by omega) (by omega) ?_ | refine wbn rfl rfl rfl ?_ | refine wnt rfl ?_ | refine wex rfl rfl ?_ | refine wpt rfl (by first | assumption | with_reducible rfl) rfl ?_ | refine wpf rfl (by first | assumption | with_reducible rfl) rfl ?_ | refine wpb rfl rfl rfl ?_ | refine wmf rfl ?_ | refine wnc rfl ?_ | refine wbq Try.underlying4 rfl rfl _ (.inr ⟨rfl, rfl⟩) ?_ | refine wbq Try.underlying4 rfl rfl _ (.inl ⟨rfl, rfl⟩) ?_); try dsimp only [st, List.set_cons_zero, List.set_cons_succ]) | ((first | refine AS_nil ?_ | refine AI_skip ?_ | refine AI_exit ?_); try simp only [AThen, ABlk, reduceIte, reduceCtorEq]) | ((first | refine hK _ _ ?_ | ((first | clear hK K | clear IH hK K); refine hK _ _ ?_) | ((first | clear hK K | clear IH hK K); (first | clear hK K | clear IH hK K); refine hK _ _ ?_) | ((first | clear hK K | clear IH hK K); (first | clear hK K | clear IH hK K); (first | clear hK K | clear IH hK K); refine hK _ _ ?_)); try (first | clear hK K | clear IH hK K)) | refine AI_cond_t rfl (by first | assumption | with_reducible rfl) ?_ | refine AI_cond_f rfl (by first | assumption | with_reducible rfl) ?_ | refine AS_gy rfl (by first | assumption | with_reducible rfl) ?_ | refine AS_gtn rfl (by first | assumption | with_reducible rfl) ?_ | refine AS_gfn rfl (by first | assumption | with_reducible rfl) ?_ | refine AI_block (AI_loop ?_) | refine AI_block ?_ | refine AI_ret ⟨_, rfl, ?_⟩)
  · obtain ⟨y, hy, hmem, hdrop⟩ := drop_at h0 hc'
    rw [hdrop] at hidx
    refine AS_op (OpR_idx Try.underlying59 sz105 rfl rfl (hR.le hle) (fun _ => rfl) h0 hy fun b o hrow => ?_)
    try (dsimp only [st, setL, AV.cells, List.set_cons_zero, List.set_cons_succ, List.drop_zero, List.drop_succ_cons, List.take_zero, List.take_succ_cons, Nat.zero_add, Nat.add_zero, Nat.reduceAdd, List.cons_append, List.nil_append, List.eraseIdx_cons_zero, List.eraseIdx_cons_succ])
    repeat (first | refine AI_seqk fun K hK => ?_ | refine AI_reg ?_ | ((first | refine wmv rfl ?_ | refine wag rfl ?_ | refine war _ rfl rfl rfl (by omega) (by omega) ?_ | refine wbn rfl rfl rfl ?_ | refine wnt rfl ?_ | refine wex rfl rfl ?_ | refine wpt rfl (by first | assumption | with_reducible rfl) rfl ?_ | refine wpf rfl (by first | assumption | with_reducible rfl) rfl ?_ | refine wpb rfl rfl rfl ?_ | refine wmf rfl ?_ | refine wnc rfl ?_ | refine wbq Try.underlying4 rfl rfl _ (.inr ⟨rfl, rfl⟩) ?_ | refine wbq Try.underlying4 rfl rfl _ (.inl ⟨rfl, rfl⟩) ?_); try dsimp only [st, List.set_cons_zero, List.set_cons_succ]) | ((first | refine AS_nil ?_ | refine AI_skip ?_ | refine AI_exit ?_); try simp only [AThen, ABlk, reduceIte, reduceCtorEq]) | ((first | refine hK _ _ ?_ | ((first | clear hK K | clear IH hK K); refine hK _ _ ?_) | ((first | clear hK K | clear IH hK K); (first | clear hK K | clear IH hK K); refine hK _ _ ?_) | ((first | clear hK K | clear IH hK K); (first | clear hK K | clear IH hK K); (first | clear hK K | clear IH hK K); refine hK _ _ ?_)); try (first | clear hK K | clear IH hK K)) | refine AI_cond_t rfl (by first | assumption | with_reducible rfl) ?_ | refine AI_cond_f rfl (by first | assumption | with_reducible rfl) ?_ | refine AS_gy rfl (by first | assumption | with_reducible rfl) ?_ | refine AS_gtn rfl (by first | assumption | with_reducible rfl) ?_ | refine AS_gfn rfl (by first | assumption | with_reducible rfl) ?_ | refine AI_block (AI_loop ?_) | refine AI_block ?_ | refine AI_ret ⟨_, rfl, ?_⟩)
    refine AS_op (OpR_load rfl (loadA_n ag105 sz105 hrow) ?_)
    try (dsimp only [st, setL, AV.cells, List.set_cons_zero, List.set_cons_succ, List.drop_zero, List.drop_succ_cons, List.take_zero, List.take_succ_cons, Nat.zero_add, Nat.add_zero, Nat.reduceAdd, List.cons_append, List.nil_append, List.eraseIdx_cons_zero, List.eraseIdx_cons_succ])
    repeat (first | refine AI_seqk fun K hK => ?_ | refine AI_reg ?_ | ((first | refine wmv rfl ?_ | refine wag rfl ?_ | refine war _ rfl rfl rfl (by omega) (by omega) ?_ | refine wbn rfl rfl rfl ?_ | refine wnt rfl ?_ | refine wex rfl rfl ?_ | refine wpt rfl (by first | assumption | with_reducible rfl) rfl ?_ | refine wpf rfl (by first | assumption | with_reducible rfl) rfl ?_ | refine wpb rfl rfl rfl ?_ | refine wmf rfl ?_ | refine wnc rfl ?_ | refine wbq Try.underlying4 rfl rfl _ (.inr ⟨rfl, rfl⟩) ?_ | refine wbq Try.underlying4 rfl rfl _ (.inl ⟨rfl, rfl⟩) ?_); try dsimp only [st, List.set_cons_zero, List.set_cons_succ]) | ((first | refine AS_nil ?_ | refine AI_skip ?_ | refine AI_exit ?_); try simp only [AThen, ABlk, reduceIte, reduceCtorEq]) | ((first | refine hK _ _ ?_ | ((first | clear hK K | clear IH hK K); refine hK _ _ ?_) | ((first | clear hK K | clear IH hK K); (first | clear hK K | clear IH hK K); refine hK _ _ ?_) | ((first | clear hK K | clear IH hK K); (first | clear hK K | clear IH hK K); (first | clear hK K | clear IH hK K); refine hK _ _ ?_)); try (first | clear hK K | clear IH hK K)) | refine AI_cond_t rfl (by first | assumption | with_reducible rfl) ?_ | refine AI_cond_f rfl (by first | assumption | with_reducible rfl) ?_ | refine AS_gy rfl (by first | assumption | with_reducible rfl) ?_ | refine AS_gtn rfl (by first | assumption | with_reducible rfl) ?_ | refine AS_gfn rfl (by first | assumption | with_reducible rfl) ?_ | refine AI_block (AI_loop ?_) | refine AI_block ?_ | refine AI_ret ⟨_, rfl, ?_⟩)
    refine AS_op (OpR_call rfl rfl (hp y hmem _ hle) ?_)
    rintro _ h2 wf1 ⟨rfl, hle2⟩
    try (dsimp only [st, setL, AV.cells, List.set_cons_zero, List.set_cons_succ, List.drop_zero, List.drop_succ_cons, List.take_zero, List.take_succ_cons, Nat.zero_add, Nat.add_zero, Nat.reduceAdd, List.cons_append, List.nil_append, List.eraseIdx_cons_zero, List.eraseIdx_cons_succ])
    repeat (first | refine AI_seqk fun K hK => ?_ | refine AI_reg ?_ | ((first | refine wmv rfl ?_ | refine wag rfl ?_ | refine war _ rfl rfl rfl (by omega) (by omega) ?_ | refine wbn rfl rfl rfl ?_ | refine wnt rfl ?_ | refine wex rfl rfl ?_ | refine wpt rfl (by first | assumption | with_reducible rfl) rfl ?_ | refine wpf rfl (by first | assumption | with_reducible rfl) rfl ?_ | refine wpb rfl rfl rfl ?_ | refine wmf rfl ?_ | refine wnc rfl ?_ | refine wbq Try.underlying4 rfl rfl _ (.inr ⟨rfl, rfl⟩) ?_ | refine wbq Try.underlying4 rfl rfl _ (.inl ⟨rfl, rfl⟩) ?_); try dsimp only [st, List.set_cons_zero, List.set_cons_succ]) | ((first | refine AS_nil ?_ | refine AI_skip ?_ | refine AI_exit ?_); try simp only [AThen, ABlk, reduceIte, reduceCtorEq]) | ((first | refine hK _ _ ?_ | ((first | clear hK K | clear IH hK K); refine hK _ _ ?_) | ((first | clear hK K | clear IH hK K); (first | clear hK K | clear IH hK K); refine hK _ _ ?_) | ((first | clear hK K | clear IH hK K); (first | clear hK K | clear IH hK K); (first | clear hK K | clear IH hK K); refine hK _ _ ?_)); try (first | clear hK K | clear IH hK K)) | refine AI_cond_t rfl (by first | assumption | with_reducible rfl) ?_ | refine AI_cond_f rfl (by first | assumption | with_reducible rfl) ?_ | refine AS_gy rfl (by first | assumption | with_reducible rfl) ?_ | refine AS_gtn rfl (by first | assumption | with_reducible rfl) ?_ | refine AS_gfn rfl (by first | assumption | with_reducible rfl) ?_ | refine AI_block (AI_loop ?_) | refine AI_block ?_ | refine AI_ret ⟨_, rfl, ?_⟩)
    (first | refine AS_gt rfl ?_ ?_ | refine AS_gf rfl ?_ ?_ | refine AI_cond rfl ?_ ?_) <;> intro hc <;> have hc' := hc <;> try simp only [decide_eq_true_eq, decide_eq_false_iff_not, Bool.not_eq_true', Bool.not_eq_false', Bool.not_eq_true, Bool.not_eq_false, beq_iff_eq, bne_iff_ne, beq_eq_false_iff_ne, bne_eq_false_iff_eq, Int.not_lt, Int.not_le, ge_iff_le, gt_iff_lt, not_and, ne_eq, Decidable.not_not] at hc'
    all_goals
      repeat (first | refine AI_seqk fun K hK => ?_ | refine AI_reg ?_ | ((first | refine wmv rfl ?_ | refine wag rfl ?_ | refine war _ rfl rfl rfl (by omega) (by omega) ?_ | refine wbn rfl rfl rfl ?_ | refine wnt rfl ?_ | refine wex rfl rfl ?_ | refine wpt rfl (by first | assumption | with_reducible rfl) rfl ?_ | refine wpf rfl (by first | assumption | with_reducible rfl) rfl ?_ | refine wpb rfl rfl rfl ?_ | refine wmf rfl ?_ | refine wnc rfl ?_ | refine wbq Try.underlying4 rfl rfl _ (.inr ⟨rfl, rfl⟩) ?_ | refine wbq Try.underlying4 rfl rfl _ (.inl ⟨rfl, rfl⟩) ?_); try dsimp only [st, List.set_cons_zero, List.set_cons_succ]) | ((first | refine AS_nil ?_ | refine AI_skip ?_ | refine AI_exit ?_); try simp only [AThen, ABlk, reduceIte, reduceCtorEq]) | ((first | refine hK _ _ ?_ | ((first | clear hK K | clear IH hK K); refine hK _ _ ?_) | ((first | clear hK K | clear IH hK K); (first | clear hK K | clear IH hK K); refine hK _ _ ?_) | ((first | clear hK K | clear IH hK K); (first | clear hK K | clear IH hK K); (first | clear hK K | clear IH hK K); refine hK _ _ ?_)); try (first | clear hK K | clear IH hK K)) | refine AI_cond_t rfl (by first | assumption | with_reducible rfl) ?_ | refine AI_cond_f rfl (by first | assumption | with_reducible rfl) ?_ | refine AS_gy rfl (by first | assumption | with_reducible rfl) ?_ | refine AS_gtn rfl (by first | assumption | with_reducible rfl) ?_ | refine AS_gfn rfl (by first | assumption | with_reducible rfl) ?_ | refine AI_block (AI_loop ?_) | refine AI_block ?_ | refine AI_ret ⟨_, rfl, ?_⟩)
    · refine ⟨?_, hle.trans hle2⟩
      rw [hidx]
      simp [idxFrom, hc, oneA]
    · refine IH (n - 1) _ _ (by omega) ⟨i + 1, _, exJ rfl, by omega, by omega, hle.trans hle2, ?_⟩
      rw [hidx, toNat_succ h0]
      simp [idxFrom, hc]
  · refine ⟨?_, hle⟩
    rw [hidx, List.drop_eq_nil_of_le (by omega)]
    rfl

theorem ContainsFunc_Mat_ac (l : List MatM) (v : AV) (g : FuncId) (caps : List AV) (p : MatM → Bool) (h : AH) (hR : RdG 4 enMat h v l) (hl : l.length ≤ 4611686018427387904)
    (hp : Pred Try.prog g caps vMat h p l) :
    AC Try.prog 99 [v, .f g caps] h (fun r h' => r = .b (l.any p) ∧ h.le h') := by
  refine e99 _ _ fun wf => ?_
  unfold c99
  repeat (first | refine AI_seqk fun K hK => ?_ | refine AI_reg ?_ | ((first | refine wmv rfl ?_ | refine wag rfl ?_ | refine war _ rfl rfl rfl (by omega) (by omega) ?_ | refine wbn rfl rfl rfl ?_ | refine wnt rfl ?_ | refine wex rfl rfl ?_ | refine wpt rfl (by first | assumption | with_reducible rfl) rfl ?_ | refine wpf rfl (by first | assumption | with_reducible rfl) rfl ?_ | refine wpb rfl rfl rfl ?_ | refine wmf rfl ?_ | refine wnc rfl ?_ | refine wbq Try.underlying4 rfl rfl _ (.inr ⟨rfl, rfl⟩) ?_ | refine wbq Try.underlying4 rfl rfl _ (.inl ⟨rfl, rfl⟩) ?_); try dsimp only [st, List.set_cons_zero, List.set_cons_succ]) | ((first | refine AS_nil ?_ | refine AI_skip ?_ | refine AI_exit ?_); try simp only [AThen, ABlk, reduceIte, reduceCtorEq]) | ((first | refine hK _ _ ?_ | ((first | clear hK K | clear IH hK K); refine hK _ _ ?_) | ((first | clear hK K | clear IH hK K); (first | clear hK K | clear IH hK K); refine hK _ _ ?_) | ((first | clear hK K | clear IH hK K); (first | clear hK K | clear IH hK K); (first | clear hK K | clear IH hK K); refine hK _ _ ?_)); try (first | clear hK K | clear IH hK K)) | refine AI_cond_t rfl (by first | assumption | with_reducible rfl) ?_ | refine AI_cond_f rfl (by first | assumption | with_reducible rfl) ?_ | refine AS_gy rfl (by first | assumption | with_reducible rfl) ?_ | refine AS_gtn rfl (by first | assumption | with_reducible rfl) ?_ | refine AS_gfn rfl (by first | assumption | with_reducible rfl) ?_ | refine AI_block (AI_loop ?_) | refine AI_block ?_ | refine AI_ret ⟨_, rfl, ?_⟩)
  refine AS_op (OpR_call rfl rfl (IndexFunc_Mat_ac l v g caps p _ hR hl hp) ?_)
  rintro _ h2 wf1 ⟨rfl, hle2⟩
  try (dsimp only [st, setL, AV.cells, List.set_cons_zero, List.set_cons_succ, List.drop_zero, List.drop_succ_cons, List.take_zero, List.take_succ_cons, Nat.zero_add, Nat.add_zero, Nat.reduceAdd, List.cons_append, List.nil_append, List.eraseIdx_cons_zero, List.eraseIdx_cons_succ])
  repeat (first | refine AI_seqk fun K hK => ?_ | refine AI_reg ?_ | ((first | refine wmv rfl ?_ | refine wag rfl ?_ | refine war _ rfl rfl rfl (by omega) (by omega) ?_ | refine wbn rfl rfl rfl ?_ | refine wnt rfl ?_ | refine wex rfl rfl ?_ | refine wpt rfl (by first | assumption | with_reducible rfl) rfl ?_ | refine wpf rfl (by first | assumption | with_reducible rfl) rfl ?_ | refine wpb rfl rfl rfl ?_ | refine wmf rfl ?_ | refine wnc rfl ?_ | refine wbq Try.underlying4 rfl rfl _ (.inr ⟨rfl, rfl⟩) ?_ | refine wbq Try.underlying4 rfl rfl _ (.inl ⟨rfl, rfl⟩) ?_); try dsimp only [st, List.set_cons_zero, List.set_cons_succ]) | ((first | refine AS_nil ?_ | refine AI_skip ?_ | refine AI_exit ?_); try simp only [AThen, ABlk, reduceIte, reduceCtorEq]) | ((first | refine hK _ _ ?_ | ((first | clear hK K | clear IH hK K); refine hK _ _ ?_) | ((first | clear hK K | clear IH hK K); (first | clear hK K | clear IH hK K); refine hK _ _ ?_) | ((first | clear hK K | clear IH hK K); (first | clear hK K | clear IH hK K); (first | clear hK K | clear IH hK K); refine hK _ _ ?_)); try (first | clear hK K | clear IH hK K)) | refine AI_cond_t rfl (by first | assumption | with_reducible rfl) ?_ | refine AI_cond_f rfl (by first | assumption | with_reducible rfl) ?_ | refine AS_gy rfl (by first | assumption | with_reducible rfl) ?_ | refine AS_gtn rfl (by first | assumption | with_reducible rfl) ?_ | refine AS_gfn rfl (by first | assumption | with_reducible rfl) ?_ | refine AI_block (AI_loop ?_) | refine AI_block ?_ | refine AI_ret ⟨_, rfl, ?_⟩)
  refine ⟨?_, hle2⟩
  simp only [oneA, ← idxFrom_any p l 0 (by omega), ge_iff_le]

/-! ### Plans run on matrices -/
def rmOk (p : PlanM) (m : Int) (l : List MatM) : Bool := planOk p && (decide (2 ≤ m ∧ m ≤ 10000) && (decide ((l.length : Int) = p.n) && l.all (matOk m)))

def rmR (p : PlanM) (m : Int) (l : List MatM) : List MatM := if rmOk p m l = true then pickM (runM (matMul m) p.steps l) p.outs else []

def TupQ (l : List MatM) (ok : Bool) (r : AV) (M : List It) : Prop := ∃ w, r = .tup [w, .b ok] ∧ lenA w = some l.length ∧ w.sc = true ∧ M = [.sl w 4 (l.flatMap enMat)]

theorem TupQ.of {l : List MatM} {ok : Bool} {h0 h : AH} {w : AV} (H : Own h0 4 enMat h w l) : ∃ M, TupQ l ok (.tup [w, .b ok]) M ∧ Loq h0 h M := ⟨_, ⟨w, rfl, H.rd.len, rd_sc H.rd, rfl⟩, H.loc enMat4⟩

theorem TupQ.none {h0 h : AH} {L : List It} (H : Loq h0 h L) : ∃ M, TupQ [] false (.tup [.ns, .b false]) M ∧ Loq h0 h M := ⟨_, ⟨.ns, rfl, rfl, rfl, rfl⟩, loq_ns (H.sub (List.nil_sublist _)) 4⟩

theorem RunMatrices_1_ac (a : MatM) (m : Int) (b : Nat) (h : AH) (hb : h.cell b 0 = some (.i .i64 m)) :
    AC Try.prog 100 [.agg (enMat a), .p b 0] h (fun r h' => r = .b (!resOk m [a.a, a.b, a.c, a.d]) ∧ h.le h') := by
  refine e100 _ _ fun wf => ?_
  unfold c100
  refine LI_start wf ?_
  refine W ?_
  refine LS_bxn rfl rfl fun b1 => ?_
  try (dsimp only [st, setL, AV.cells, List.set_cons_zero, List.set_cons_succ, List.drop_zero, List.drop_succ_cons, List.take_zero, List.take_succ_cons, Nat.zero_add, Nat.add_zero, Nat.reduceAdd, List.cons_append, List.nil_append, List.eraseIdx_cons_zero, List.eraseIdx_cons_succ])
  refine W ?_
  refine dz100_0 ?_
  refine WX ?_
  refine W ?_
  refine LX_co (fun h' HL wf => residues_ac a h'.frz) enI1 rfl rfl noG fun w1 hw1 sw1 => ?_
  try (dsimp only [st, setL, AV.cells, List.set_cons_zero, List.set_cons_succ, List.drop_zero, List.drop_succ_cons, List.take_zero, List.take_succ_cons, Nat.zero_add, Nat.add_zero, Nat.reduceAdd, List.cons_append, List.nil_append, List.eraseIdx_cons_zero, List.eraseIdx_cons_succ])
  refine WX ?_
  refine W ?_
  refine LX_c0 (fun h' HL wf => residuesOk_ac _ w1 m h'.frz (HL.rdI 0 rfl enI1 (by decide)).frz (by simp)) rfl rfl noG ?_
  try (dsimp only [st, setL, AV.cells, List.set_cons_zero, List.set_cons_succ, List.drop_zero, List.drop_succ_cons, List.take_zero, List.take_succ_cons, Nat.zero_add, Nat.add_zero, Nat.reduceAdd, List.cons_append, List.nil_append, List.eraseIdx_cons_zero, List.eraseIdx_cons_succ])
  refine WX ?_
  refine W ?_
  refine RET fun h' HL => ?_
  try dsimp only [oneA]
  exact ⟨rfl, HL.le⟩

theorem any_res {m : Int} {l : List MatM} (hm : decide (2 ≤ m ∧ m ≤ 10000) = true) : (l.any fun a => !resOk m [a.a, a.b, a.c, a.d]) = !(l.all (matOk m)) := by
  rw [List.all_eq_not_any_not, Bool.not_not]
  congr 1
  funext a
  rw [resOk, hm, Bool.true_and]
  rfl

theorem implRM_ac (p : PlanM) (m : Int) (l : List MatM) (v w : AV) (h : AH) (hR : PlR h v p) (hw : PSm p) (hl : RdG 4 enMat h w l) (hll : l.length ≤ 1048576) :
    AC Try.prog 49 [v, .i .i64 m, w] h (fun r h' => ∃ M, TupQ (rmR p m l) (rmOk p m l) r M ∧ Loq h h' M) := by
  have hR0 := hR
  have hlw := hl.len
  obtain ⟨vs, vo, rfl, hs, ho⟩ := hR
  refine e49 _ _ _ fun wf => ?_
  unfold c49
  refine LI_start wf ?_
  refine W ?_
  refine LS_bxn rfl (sc_cons rfl (sc_cons (rd_sc hs) (sc_cons (rd_sc ho) rfl))) fun b1 => ?_
  try (dsimp only [st, setL, AV.cells, List.set_cons_zero, List.set_cons_succ, List.drop_zero, List.drop_succ_cons, List.take_zero, List.take_succ_cons, Nat.zero_add, Nat.add_zero, Nat.reduceAdd, List.cons_append, List.nil_append, List.eraseIdx_cons_zero, List.eraseIdx_cons_succ])
  refine W ?_
  refine LS_bx1 rfl rfl fun b2 => ?_
  try (dsimp only [st, setL, AV.cells, List.set_cons_zero, List.set_cons_succ, List.drop_zero, List.drop_succ_cons, List.take_zero, List.take_succ_cons, Nat.zero_add, Nat.add_zero, Nat.reduceAdd, List.cons_append, List.nil_append, List.eraseIdx_cons_zero, List.eraseIdx_cons_succ])
  refine W ?_
  refine LS_c0 (fun h' HL wf => ContainsFunc_Mat_ac l w _ _ (fun a => !resOk m [a.a, a.b, a.c, a.d]) h' (hl.le HL.le) (by omega) (fun x _ h2 hle => RunMatrices_1_ac x m b2 h2 (hle.cell (HL.cellP 0 rfl rfl)))) rfl rfl ?_
  try (dsimp only [st, setL, AV.cells, List.set_cons_zero, List.set_cons_succ, List.drop_zero, List.drop_succ_cons, List.take_zero, List.take_succ_cons, Nat.zero_add, Nat.add_zero, Nat.reduceAdd, List.cons_append, List.nil_append, List.eraseIdx_cons_zero, List.eraseIdx_cons_succ])
  refine W ?_
  refine LS_c0 (fun h' HL wf => isPlan_ac p _ h' (hR0.le HL.le) hw) rfl rfl ?_
  try (dsimp only [st, setL, AV.cells, List.set_cons_zero, List.set_cons_succ, List.drop_zero, List.drop_succ_cons, List.take_zero, List.take_succ_cons, Nat.zero_add, Nat.add_zero, Nat.reduceAdd, List.cons_append, List.nil_append, List.eraseIdx_cons_zero, List.eraseIdx_cons_succ])
  refine W ?_
  (first | refine LS_gt rfl ?_ ?_ | refine LS_gf rfl ?_ ?_ | refine LI_cond rfl ?_ ?_) <;> intro hc <;> have hc' := hc <;> try simp only [decide_eq_true_eq, decide_eq_false_iff_not, Bool.not_eq_true', Bool.not_eq_false', Bool.not_eq_true, Bool.not_eq_false, beq_iff_eq, bne_iff_ne, beq_eq_false_iff_ne, bne_eq_false_iff_eq, Int.not_lt, Int.not_le, ge_iff_le, gt_iff_lt, not_and, ne_eq, Decidable.not_not] at hc'
  all_goals (try (dsimp only [st, setL, AV.cells, List.set_cons_zero, List.set_cons_succ, List.drop_zero, List.drop_succ_cons, List.take_zero, List.take_succ_cons, Nat.zero_add, Nat.add_zero, Nat.reduceAdd, List.cons_append, List.nil_append, List.eraseIdx_cons_zero, List.eraseIdx_cons_succ]))
  all_goals (refine W ?_)
  · have hk := nf hc
    refine LS_c0' (fun h' HL wf => modulusOk_ac m h') rfl rfl ?_
    try (dsimp only [st, setL, AV.cells, List.set_cons_zero, List.set_cons_succ, List.drop_zero, List.drop_succ_cons, List.take_zero, List.take_succ_cons, Nat.zero_add, Nat.add_zero, Nat.reduceAdd, List.cons_append, List.nil_append, List.eraseIdx_cons_zero, List.eraseIdx_cons_succ])
    refine W ?_
    (first | refine LS_gt rfl ?_ ?_ | refine LS_gf rfl ?_ ?_ | refine LI_cond rfl ?_ ?_) <;> intro hc <;> have hc' := hc <;> try simp only [decide_eq_true_eq, decide_eq_false_iff_not, Bool.not_eq_true', Bool.not_eq_false', Bool.not_eq_true, Bool.not_eq_false, beq_iff_eq, bne_iff_ne, beq_eq_false_iff_ne, bne_eq_false_iff_eq, Int.not_lt, Int.not_le, ge_iff_le, gt_iff_lt, not_and, ne_eq, Decidable.not_not] at hc'
    all_goals (try (dsimp only [st, setL, AV.cells, List.set_cons_zero, List.set_cons_succ, List.drop_zero, List.drop_succ_cons, List.take_zero, List.take_succ_cons, Nat.zero_add, Nat.add_zero, Nat.reduceAdd, List.cons_append, List.nil_append, List.eraseIdx_cons_zero, List.eraseIdx_cons_succ]))
    all_goals (refine W ?_)
    · have hm := nf hc
      have hmb := of_decide_eq_true hm
      rw [any_res hm]
      (first | refine LS_gt rfl ?_ ?_ | refine LS_gf rfl ?_ ?_ | refine LI_cond rfl ?_ ?_) <;> intro hc <;> have hc' := hc <;> try simp only [decide_eq_true_eq, decide_eq_false_iff_not, Bool.not_eq_true', Bool.not_eq_false', Bool.not_eq_true, Bool.not_eq_false, beq_iff_eq, bne_iff_ne, beq_eq_false_iff_ne, bne_eq_false_iff_eq, Int.not_lt, Int.not_le, ge_iff_le, gt_iff_lt, not_and, ne_eq, Decidable.not_not] at hc'
      all_goals (try (dsimp only [st, setL, AV.cells, List.set_cons_zero, List.set_cons_succ, List.drop_zero, List.drop_succ_cons, List.take_zero, List.take_succ_cons, Nat.zero_add, Nat.add_zero, Nat.reduceAdd, List.cons_append, List.nil_append, List.eraseIdx_cons_zero, List.eraseIdx_cons_succ]))
      all_goals (refine W ?_)
      · have hln : decide ((l.length : Int) = p.n) = true := by simpa using hc
        refine W ?_
        (first | refine LS_gt rfl ?_ ?_ | refine LS_gf rfl ?_ ?_ | refine LI_cond rfl ?_ ?_) <;> intro hc <;> have hc' := hc <;> try simp only [decide_eq_true_eq, decide_eq_false_iff_not, Bool.not_eq_true', Bool.not_eq_false', Bool.not_eq_true, Bool.not_eq_false, beq_iff_eq, bne_iff_ne, beq_eq_false_iff_ne, bne_eq_false_iff_eq, Int.not_lt, Int.not_le, ge_iff_le, gt_iff_lt, not_and, ne_eq, Decidable.not_not] at hc'
        all_goals (try (dsimp only [st, setL, AV.cells, List.set_cons_zero, List.set_cons_succ, List.drop_zero, List.drop_succ_cons, List.take_zero, List.take_succ_cons, Nat.zero_add, Nat.add_zero, Nat.reduceAdd, List.cons_append, List.nil_append, List.eraseIdx_cons_zero, List.eraseIdx_cons_succ]))
        all_goals (refine W ?_)
        · have hx : rmOk p m l = false := by rw [rmOk, nt hc]; simp
          rw [rmR, hx, if_neg (by simp)]
          refine RET fun h' HL => ?_
          try dsimp only [oneA]
          exact TupQ.none HL
        · have hall := nf hc
          have hx : rmOk p m l = true := by rw [rmOk, hk, hm, hln, hall]; rfl
          rw [rmR, hx, if_pos rfl]
          have hln' := of_decide_eq_true hln
          have hall' := List.all_eq_true.1 hall
          refine LS_c1 (fun h' HL wf => matrixTimes_ac m h') rfl rfl ?_
          try (dsimp only [st, setL, AV.cells, List.set_cons_zero, List.set_cons_succ, List.drop_zero, List.drop_succ_cons, List.take_zero, List.take_succ_cons, Nat.zero_add, Nat.add_zero, Nat.reduceAdd, List.cons_append, List.nil_append, List.eraseIdx_cons_zero, List.eraseIdx_cons_succ])
          refine W ?_
          rintro _ _ ⟨b3, rfl, rfl⟩
          try (dsimp only [st, setL, AV.cells, List.set_cons_zero, List.set_cons_succ, List.drop_zero, List.drop_succ_cons, List.take_zero, List.take_succ_cons, Nat.zero_add, Nat.add_zero, Nat.reduceAdd, List.cons_append, List.nil_append, List.eraseIdx_cons_zero, List.eraseIdx_cons_succ])
          refine W ?_
          refine LS_co (fun h' HL wf => run_Mat_ac (matMul m) (fun a => matOk m a = true) (fun h => h.cell b3 0 = some (.i .i64 m)) (Kept.cell b3 0 _) _ _ p l b1 vs vo w h' (HL.cellP 0 rfl rfl) ⟨HL.rowsP 2 rfl (Nat.le_refl 3) rfl, hs.le HL.le, ho.le HL.le⟩ (hl.le HL.le) hk hln' hall' (fun x y hx hy => matMul_ok hmb.1 hx hy) (fun h2 x y hC hx1 hy1 => matrixTimes_1_ac x y m b3 h2 hC hmb.1 hmb.2 hx1 hy1)) enMat4 rfl rfl fun w3 hw3 sw3 => ?_
          try (dsimp only [st, setL, AV.cells, List.set_cons_zero, List.set_cons_succ, List.drop_zero, List.drop_succ_cons, List.take_zero, List.take_succ_cons, Nat.zero_add, Nat.add_zero, Nat.reduceAdd, List.cons_append, List.nil_append, List.eraseIdx_cons_zero, List.eraseIdx_cons_succ])
          refine W ?_
          refine LS_co (fun h' HL wf => outputsOf_Mat_ac p _ b1 vs vo w3 h' ⟨HL.rowsP 3 rfl (Nat.le_refl 3) rfl, hs.le HL.le, ho.le HL.le⟩ (HL.rdI 0 rfl enMat4 (by decide)) hw.lo (outs_in hk hln')) enMat4 rfl rfl fun w4 hw4 sw4 => ?_
          try (dsimp only [st, setL, AV.cells, List.set_cons_zero, List.set_cons_succ, List.drop_zero, List.drop_succ_cons, List.take_zero, List.take_succ_cons, Nat.zero_add, Nat.add_zero, Nat.reduceAdd, List.cons_append, List.nil_append, List.eraseIdx_cons_zero, List.eraseIdx_cons_succ])
          refine W ?_
          refine RET fun h' HL => ?_
          try dsimp only [oneA]
          exact TupQ.of (HL.ownI 0 rfl enMat4 (by decide))
      · have hln : decide ((l.length : Int) = p.n) = false := by simpa using hc
        have hx : rmOk p m l = false := by rw [rmOk, hln]; simp
        rw [rmR, hx, if_neg (by simp)]
        refine RET fun h' HL => ?_
        try dsimp only [oneA]
        exact TupQ.none HL
    · have hm := nt hc
      have hx : rmOk p m l = false := by rw [rmOk, hm]; simp
      rw [rmR, hx, if_neg (by simp)]
      refine RET fun h' HL => ?_
      try dsimp only [oneA]
      exact TupQ.none HL
  · have hx : rmOk p m l = false := by rw [rmOk, nt hc, Bool.false_and]
    rw [rmR, hx, if_neg (by simp)]
    refine RET fun h' HL => ?_
    try dsimp only [oneA]
    exact TupQ.none HL

theorem specRM_ac (p : PlanM) (m : Int) (l : List MatM) (v w : AV) (h : AH) (hR : PlR h v p) (hw : PSm p) (hl : RdG 4 enMat h w l) (hll : l.length ≤ 1048576) :
    AC Try.prog 47 [v, .i .i64 m, w] h (fun r h' => ∃ M, TupQ (rmR p m l) (rmOk p m l) r M ∧ Loq h h' M) := by
  have hR0 := hR
  have hlw := hl.len
  obtain ⟨vs, vo, rfl, hs, ho⟩ := hR
  refine e47 _ _ _ fun wf => ?_
  unfold c47
  refine LI_start wf ?_
  refine W ?_
  refine LS_bxn rfl (sc_cons rfl (sc_cons (rd_sc hs) (sc_cons (rd_sc ho) rfl))) fun b1 => ?_
  try (dsimp only [st, setL, AV.cells, List.set_cons_zero, List.set_cons_succ, List.drop_zero, List.drop_succ_cons, List.take_zero, List.take_succ_cons, Nat.zero_add, Nat.add_zero, Nat.reduceAdd, List.cons_append, List.nil_append, List.eraseIdx_cons_zero, List.eraseIdx_cons_succ])
  refine W ?_
  refine LS_c0 (fun h' HL wf => good_ac p _ h' (hR0.le HL.le) hw) rfl rfl ?_
  try (dsimp only [st, setL, AV.cells, List.set_cons_zero, List.set_cons_succ, List.drop_zero, List.drop_succ_cons, List.take_zero, List.take_succ_cons, Nat.zero_add, Nat.add_zero, Nat.reduceAdd, List.cons_append, List.nil_append, List.eraseIdx_cons_zero, List.eraseIdx_cons_succ])
  refine W ?_
  (first | refine LS_gt rfl ?_ ?_ | refine LS_gf rfl ?_ ?_ | refine LI_cond rfl ?_ ?_) <;> intro hc <;> have hc' := hc <;> try simp only [decide_eq_true_eq, decide_eq_false_iff_not, Bool.not_eq_true', Bool.not_eq_false', Bool.not_eq_true, Bool.not_eq_false, beq_iff_eq, bne_iff_ne, beq_eq_false_iff_ne, bne_eq_false_iff_eq, Int.not_lt, Int.not_le, ge_iff_le, gt_iff_lt, not_and, ne_eq, Decidable.not_not] at hc'
  all_goals (try (dsimp only [st, setL, AV.cells, List.set_cons_zero, List.set_cons_succ, List.drop_zero, List.drop_succ_cons, List.take_zero, List.take_succ_cons, Nat.zero_add, Nat.add_zero, Nat.reduceAdd, List.cons_append, List.nil_append, List.eraseIdx_cons_zero, List.eraseIdx_cons_succ]))
  all_goals (refine W ?_)
  · have hk := nf hc
    obtain ⟨h1, h2, h3, h4, hf, h6⟩ := planOk_out hk
    refine LS_c0' (fun h' HL wf => moModulus_ac m h') rfl rfl ?_
    try (dsimp only [st, setL, AV.cells, List.set_cons_zero, List.set_cons_succ, List.drop_zero, List.drop_succ_cons, List.take_zero, List.take_succ_cons, Nat.zero_add, Nat.add_zero, Nat.reduceAdd, List.cons_append, List.nil_append, List.eraseIdx_cons_zero, List.eraseIdx_cons_succ])
    refine W ?_
    (first | refine LS_gt rfl ?_ ?_ | refine LS_gf rfl ?_ ?_ | refine LI_cond rfl ?_ ?_) <;> intro hc <;> have hc' := hc <;> try simp only [decide_eq_true_eq, decide_eq_false_iff_not, Bool.not_eq_true', Bool.not_eq_false', Bool.not_eq_true, Bool.not_eq_false, beq_iff_eq, bne_iff_ne, beq_eq_false_iff_ne, bne_eq_false_iff_eq, Int.not_lt, Int.not_le, ge_iff_le, gt_iff_lt, not_and, ne_eq, Decidable.not_not] at hc'
    all_goals (try (dsimp only [st, setL, AV.cells, List.set_cons_zero, List.set_cons_succ, List.drop_zero, List.drop_succ_cons, List.take_zero, List.take_succ_cons, Nat.zero_add, Nat.add_zero, Nat.reduceAdd, List.cons_append, List.nil_append, List.eraseIdx_cons_zero, List.eraseIdx_cons_succ]))
    all_goals (refine W ?_)
    · have hm := nf hc
      have hmb := of_decide_eq_true hm
      (first | refine LS_gt rfl ?_ ?_ | refine LS_gf rfl ?_ ?_ | refine LI_cond rfl ?_ ?_) <;> intro hc <;> have hc' := hc <;> try simp only [decide_eq_true_eq, decide_eq_false_iff_not, Bool.not_eq_true', Bool.not_eq_false', Bool.not_eq_true, Bool.not_eq_false, beq_iff_eq, bne_iff_ne, beq_eq_false_iff_ne, bne_eq_false_iff_eq, Int.not_lt, Int.not_le, ge_iff_le, gt_iff_lt, not_and, ne_eq, Decidable.not_not] at hc'
      all_goals (try (dsimp only [st, setL, AV.cells, List.set_cons_zero, List.set_cons_succ, List.drop_zero, List.drop_succ_cons, List.take_zero, List.take_succ_cons, Nat.zero_add, Nat.add_zero, Nat.reduceAdd, List.cons_append, List.nil_append, List.eraseIdx_cons_zero, List.eraseIdx_cons_succ]))
      all_goals (refine W ?_)
      · have hln : decide ((l.length : Int) = p.n) = false := by simpa using hc
        have hx : rmOk p m l = false := by rw [rmOk, hln]; simp
        rw [rmR, hx, if_neg (by simp)]
        refine RET fun h' HL => ?_
        try dsimp only [oneA]
        exact TupQ.none HL
      · have hln : decide ((l.length : Int) = p.n) = true := by simpa using hc
        have hln' := of_decide_eq_true hln
        refine W ?_
        refine LIL_ind (fun n a L => ∃ (i : Int), (∃ r : Nat → AV, a = [r 0, .i .i64 m, w, .p b1 0, r 4, r 5, r 6, r 7, r 8, r 9, r 10, r 11, r 12, r 13, r 14, r 15, r 16, r 17, r 18, r 19, r 20, r 21, r 22, r 23, r 24, r 25, r 26, r 27, r 28, r 29, r 30, w, .i .i64 l.length, .i .i64 i, r 34, r 35, r 36, r 37, r 38, r 39, r 40, r 41, r 42, r 43, r 44, r 45, r 46, r 47, r 48, r 49, r 50, r 51, r 52, r 53, r 54, r 55, r 56, r 57, r 58, r 59, r 60, r 61, r 62, r 63, r 64, r 65, r 66, r 67, r 68, r 69, r 70, r 71, r 72, r 73, r 74, r 75, r 76, r 77, r 78, r 79, r 80, r 81, r 82, r 83]) ∧ L = [.pt b1 [.i .i64 p.n, vs, vo]] ∧ 0 ≤ i ∧ i + n = l.length ∧ l.all (matOk m) = (l.drop i.toNat).all (matOk m))
          l.length ⟨0, exJ rfl, rfl, by omega, by omega, rfl⟩ ?_
        rintro n a L ⟨i, ⟨r, rfl⟩, rfl, h0, hn, heq⟩ IH
        refine W ?_
        (first | refine LS_gt rfl ?_ ?_ | refine LS_gf rfl ?_ ?_ | refine LI_cond rfl ?_ ?_) <;> intro hc <;> have hc' := hc <;> try simp only [decide_eq_true_eq, decide_eq_false_iff_not, Bool.not_eq_true', Bool.not_eq_false', Bool.not_eq_true, Bool.not_eq_false, beq_iff_eq, bne_iff_ne, beq_eq_false_iff_ne, bne_eq_false_iff_eq, Int.not_lt, Int.not_le, ge_iff_le, gt_iff_lt, not_and, ne_eq, Decidable.not_not] at hc'
        all_goals (try (dsimp only [st, setL, AV.cells, List.set_cons_zero, List.set_cons_succ, List.drop_zero, List.drop_succ_cons, List.take_zero, List.take_succ_cons, Nat.zero_add, Nat.add_zero, Nat.reduceAdd, List.cons_append, List.nil_append, List.eraseIdx_cons_zero, List.eraseIdx_cons_succ]))
        all_goals (refine W ?_)
        · obtain ⟨y, hy, _, hd⟩ := drop_at (l := l) h0 hc'
          rw [hd, List.all_cons] at heq
          refine LS_ix (fun h' HL => hl.le HL.le) enMat4 hy h0 rfl rfl fun q1 o1 hrow1 => ?_
          try (dsimp only [st, setL, AV.cells, List.set_cons_zero, List.set_cons_succ, List.drop_zero, List.drop_succ_cons, List.take_zero, List.take_succ_cons, Nat.zero_add, Nat.add_zero, Nat.reduceAdd, List.cons_append, List.nil_append, List.eraseIdx_cons_zero, List.eraseIdx_cons_succ])
          refine W ?_
          refine LS_al rfl fun b3 => ?_
          try (dsimp only [st, setL, AV.cells, List.set_cons_zero, List.set_cons_succ, List.drop_zero, List.drop_succ_cons, List.take_zero, List.take_succ_cons, Nat.zero_add, Nat.add_zero, Nat.reduceAdd, List.cons_append, List.nil_append, List.eraseIdx_cons_zero, List.eraseIdx_cons_succ])
          refine W ?_
          refine LS_c0 (fun h' HL wf => moMatrix_ac y m h' hmb.1 hmb.2) rfl rfl ?_
          try (dsimp only [st, setL, AV.cells, List.set_cons_zero, List.set_cons_succ, List.drop_zero, List.drop_succ_cons, List.take_zero, List.take_succ_cons, Nat.zero_add, Nat.add_zero, Nat.reduceAdd, List.cons_append, List.nil_append, List.eraseIdx_cons_zero, List.eraseIdx_cons_succ])
          refine W ?_
          (first | refine LS_gt rfl ?_ ?_ | refine LS_gf rfl ?_ ?_ | refine LI_cond rfl ?_ ?_) <;> intro hc <;> have hc' := hc <;> try simp only [decide_eq_true_eq, decide_eq_false_iff_not, Bool.not_eq_true', Bool.not_eq_false', Bool.not_eq_true, Bool.not_eq_false, beq_iff_eq, bne_iff_ne, beq_eq_false_iff_ne, bne_eq_false_iff_eq, Int.not_lt, Int.not_le, ge_iff_le, gt_iff_lt, not_and, ne_eq, Decidable.not_not] at hc'
          all_goals (try (dsimp only [st, setL, AV.cells, List.set_cons_zero, List.set_cons_succ, List.drop_zero, List.drop_succ_cons, List.take_zero, List.take_succ_cons, Nat.zero_add, Nat.add_zero, Nat.reduceAdd, List.cons_append, List.nil_append, List.eraseIdx_cons_zero, List.eraseIdx_cons_succ]))
          all_goals (refine W ?_)
          · have hy0 : matOk m y = false := nt hc
            have hx : rmOk p m l = false := by rw [rmOk, heq, hy0]; simp
            rw [rmR, hx, if_neg (by simp)]
            refine RET fun h' HL => ?_
            try dsimp only [oneA]
            exact TupQ.none HL
          · have hy0 : matOk m y = true := nf hc
            rw [hy0, Bool.true_and] at heq
            refine LIL_drop 1 ?_
            refine IH (n - 1) _ _ (by omega) ⟨i + 1, exJ rfl, rfl, by omega, by omega, by rw [toNat_succ h0]; exact heq⟩
        · rw [List.drop_eq_nil_of_le (by omega)] at heq
          have hall : l.all (matOk m) = true := heq
          have hall' := List.all_eq_true.1 hall
          have hx : rmOk p m l = true := by rw [rmOk, hk, hm, hln, hall]; rfl
          rw [rmR, hx, if_pos rfl]
          clear IH
          refine W ?_
          refine LS_lt ([] : List MatM) rfl rfl (by decide) rfl rfl rfl rfl enMat4 rfl rfl fun w1 lw1 sw1 => ?_
          try (dsimp only [st, setL, AV.cells, List.set_cons_zero, List.set_cons_succ, List.drop_zero, List.drop_succ_cons, List.take_zero, List.take_succ_cons, Nat.zero_add, Nat.add_zero, Nat.reduceAdd, List.cons_append, List.nil_append, List.eraseIdx_cons_zero, List.eraseIdx_cons_succ])
          refine W ?_
          refine LS_ap0 0 rfl (fun h' HL => hl.le HL.le) enMat4 (by decide) (by simp; omega) (by simp; omega) rfl rfl rfl fun w2 lw2 sw2 => ?_
          try (dsimp only [st, setL, AV.cells, List.set_cons_zero, List.set_cons_succ, List.drop_zero, List.drop_succ_cons, List.take_zero, List.take_succ_cons, Nat.zero_add, Nat.add_zero, Nat.reduceAdd, List.cons_append, List.nil_append, List.eraseIdx_cons_zero, List.eraseIdx_cons_succ])
          refine W ?_
          refine LIL_ind (fun n a L => ∃ (i : Int) (u : AV) (o : List MatM), (∃ r : Nat → AV, a = [r 0, .i .i64 m, r 2, .p b1 0, r 4, r 5, r 6, r 7, r 8, r 9, u, r 11, r 12, r 13, r 14, r 15, r 16, r 17, r 18, r 19, r 20, r 21, r 22, r 23, r 24, r 25, r 26, r 27, r 28, r 29, r 30, r 31, r 32, r 33, r 34, r 35, r 36, r 37, r 38, r 39, r 40, r 41, r 42, r 43, r 44, r 45, vs, .i .i64 p.steps.length, .i .i64 i, r 49, r 50, r 51, r 52, r 53, r 54, r 55, r 56, r 57, r 58, r 59, r 60, r 61, r 62, r 63, r 64, r 65, r 66, r 67, r 68, r 69, r 70, r 71, r 72, r 73, r 74, r 75, r 76, r 77, r 78, r 79, r 80, r 81, r 82, r 83]) ∧ L = [.sl u 4 (o.flatMap enMat), .pt b1 [.i .i64 p.n, vs, vo]] ∧ 0 ≤ i ∧ i + n = p.steps.length ∧ runM (matMul m) p.steps l = runM (matMul m) (p.steps.drop i.toNat) o ∧ (o.length : Int) = p.n + i ∧ ∀ x ∈ o, matOk m x = true)
            p.steps.length ⟨0, w2, l, exJ rfl, rfl, by omega, by omega, rfl, by omega, hall'⟩ ?_
          rintro n a L ⟨i, u, o, ⟨r, rfl⟩, rfl, h0, hn', heq, hol, hPo⟩ IH
          refine W ?_
          (first | refine LS_gt rfl ?_ ?_ | refine LS_gf rfl ?_ ?_ | refine LI_cond rfl ?_ ?_) <;> intro hc <;> have hc' := hc <;> try simp only [decide_eq_true_eq, decide_eq_false_iff_not, Bool.not_eq_true', Bool.not_eq_false', Bool.not_eq_true, Bool.not_eq_false, beq_iff_eq, bne_iff_ne, beq_eq_false_iff_ne, bne_eq_false_iff_eq, Int.not_lt, Int.not_le, ge_iff_le, gt_iff_lt, not_and, ne_eq, Decidable.not_not] at hc'
          all_goals (try (dsimp only [st, setL, AV.cells, List.set_cons_zero, List.set_cons_succ, List.drop_zero, List.drop_succ_cons, List.take_zero, List.take_succ_cons, Nat.zero_add, Nat.add_zero, Nat.reduceAdd, List.cons_append, List.nil_append, List.eraseIdx_cons_zero, List.eraseIdx_cons_succ]))
          all_goals (refine W ?_)
          · obtain ⟨s, hs', _, hd⟩ := drop_at (l := p.steps) h0 hc'
            have hb := formedS_get hf hs'
            have l1 : s.1.toNat < o.length := by omega
            have l2 : s.2.toNat < o.length := by omega
            have g1 : o[s.1.toNat]? = some o[s.1.toNat] := List.getElem?_eq_getElem l1
            have g2 : o[s.2.toNat]? = some o[s.2.toNat] := List.getElem?_eq_getElem l2
            have p1 := hPo _ (List.getElem_mem l1)
            have p2 := hPo _ (List.getElem_mem l2)
            have e : runS (matMul m) o s = o ++ [matMul m o[s.1.toNat] o[s.2.toNat]] := by simp [runS, g1, g2]
            rw [hd, runM_cons, e] at heq
            generalize o[s.1.toNat] = x at *
            generalize o[s.2.toNat] = y at *
            refine LS_ix (fun h' HL => hs.le HL.le) enStep2 hs' h0 rfl rfl fun q1 o1 hrow1 => ?_
            try (dsimp only [st, setL, AV.cells, List.set_cons_zero, List.set_cons_succ, List.drop_zero, List.drop_succ_cons, List.take_zero, List.take_succ_cons, Nat.zero_add, Nat.add_zero, Nat.reduceAdd, List.cons_append, List.nil_append, List.eraseIdx_cons_zero, List.eraseIdx_cons_succ])
            refine W ?_
            refine LS_al rfl fun b3 => ?_
            try (dsimp only [st, setL, AV.cells, List.set_cons_zero, List.set_cons_succ, List.drop_zero, List.drop_succ_cons, List.take_zero, List.take_succ_cons, Nat.zero_add, Nat.add_zero, Nat.reduceAdd, List.cons_append, List.nil_append, List.eraseIdx_cons_zero, List.eraseIdx_cons_succ])
            refine W ?_
            refine dz47_0 ?_
            refine WX ?_
            refine W ?_
            refine LX_ix (fun h' HL => HL.rdI 1 rfl enMat4 (by decide)) enMat4 g1 (by omega) rfl rfl noG fun q2 o2 hrow2 => ?_
            try (dsimp only [st, setL, AV.cells, List.set_cons_zero, List.set_cons_succ, List.drop_zero, List.drop_succ_cons, List.take_zero, List.take_succ_cons, Nat.zero_add, Nat.add_zero, Nat.reduceAdd, List.cons_append, List.nil_append, List.eraseIdx_cons_zero, List.eraseIdx_cons_succ])
            refine WX ?_
            refine W ?_
            refine LX_ix (fun h' HL => HL.rdI 1 rfl enMat4 (by decide)) enMat4 g2 (by omega) rfl rfl noG fun q3 o3 hrow3 => ?_
            try (dsimp only [st, setL, AV.cells, List.set_cons_zero, List.set_cons_succ, List.drop_zero, List.drop_succ_cons, List.take_zero, List.take_succ_cons, Nat.zero_add, Nat.add_zero, Nat.reduceAdd, List.cons_append, List.nil_append, List.eraseIdx_cons_zero, List.eraseIdx_cons_succ])
            refine WX ?_
            refine W ?_
            refine LX_c0 (fun h' HL wf => moTimes_ac x y m h'.frz hmb.1 hmb.2 p1 p2) rfl rfl noG ?_
            try (dsimp only [st, setL, AV.cells, List.set_cons_zero, List.set_cons_succ, List.drop_zero, List.drop_succ_cons, List.take_zero, List.take_succ_cons, Nat.zero_add, Nat.add_zero, Nat.reduceAdd, List.cons_append, List.nil_append, List.eraseIdx_cons_zero, List.eraseIdx_cons_succ])
            refine WX ?_
            refine W ?_
            refine LX_lt [matMul m x y] rfl rfl (by decide) rfl rfl rfl rfl enMat4 rfl rfl noG fun w4 hw4 sw4 => ?_
            try (dsimp only [st, setL, AV.cells, List.set_cons_zero, List.set_cons_succ, List.drop_zero, List.drop_succ_cons, List.take_zero, List.take_succ_cons, Nat.zero_add, Nat.add_zero, Nat.reduceAdd, List.cons_append, List.nil_append, List.eraseIdx_cons_zero, List.eraseIdx_cons_succ])
            refine WX ?_
            refine W ?_
            refine LX_f noG (LO_ap 2 rfl (fun h' HL => HL.rdI 0 rfl enMat4 (by decide)) enMat4 (by decide) (by simp) (by simp; omega) (by simp; omega) rfl rfl rfl fun w5 hw5 sw5 => ?_)
            try (dsimp only [st, setL, AV.cells, List.set_cons_zero, List.set_cons_succ, List.drop_zero, List.drop_succ_cons, List.take_zero, List.take_succ_cons, Nat.zero_add, Nat.add_zero, Nat.reduceAdd, List.cons_append, List.nil_append, List.eraseIdx_cons_zero, List.eraseIdx_cons_succ])
            refine WX ?_
            refine W ?_
            refine LIL_drop 2 ?_
            refine IH (n - 1) _ _ (by omega) ⟨i + 1, _, _, exJ rfl, rfl, by omega, by omega, by rw [toNat_succ h0]; exact heq, by simp; omega, ?_⟩
            intro z hz
            rcases List.mem_append.1 hz with hz | hz
            · exact hPo z hz
            · rw [List.mem_singleton.1 hz]; exact matMul_ok hmb.1 p1 p2
          · rw [List.drop_eq_nil_of_le (by omega)] at heq
            have heq' : runM (matMul m) p.steps l = o := heq
            have hout := outs_in (F := matMul m) hk hln'
            rw [heq'] at hout ⊢
            clear IH
            refine W ?_
            refine LIL_nl (k := 4) ?_
            refine LIL_ind (fun n a L => ∃ (i : Int) (z : AV), (∃ r : Nat → AV, a = [r 0, r 1, r 2, r 3, r 4, r 5, r 6, r 7, r 8, r 9, u, r 11, r 12, z, r 14, r 15, r 16, r 17, r 18, r 19, r 20, r 21, r 22, r 23, r 24, r 25, r 26, r 27, r 28, r 29, r 30, r 31, r 32, r 33, r 34, r 35, r 36, r 37, r 38, r 39, r 40, r 41, r 42, r 43, r 44, r 45, r 46, r 47, r 48, r 49, r 50, r 51, r 52, r 53, r 54, r 55, r 56, r 57, r 58, r 59, r 60, r 61, r 62, r 63, r 64, r 65, r 66, r 67, r 68, vo, .i .i64 p.outs.length, .i .i64 i, r 72, r 73, r 74, r 75, r 76, r 77, r 78, r 79, r 80, r 81, r 82, r 83]) ∧ L = [.sl z 4 ((pickM o (p.outs.take i.toNat)).flatMap enMat), .sl u 4 (o.flatMap enMat), .pt b1 [.i .i64 p.n, vs, vo]] ∧ 0 ≤ i ∧ i + n = p.outs.length)
              p.outs.length ⟨0, _, exJ rfl, rfl, by omega, by omega⟩ ?_
            rintro n a L ⟨i, z, ⟨r, rfl⟩, rfl, h0, hn⟩ IH
            have hel := pickM_len o (p.outs.take i.toNat)
            rw [List.length_take] at hel
            refine W ?_
            (first | refine LS_gt rfl ?_ ?_ | refine LS_gf rfl ?_ ?_ | refine LI_cond rfl ?_ ?_) <;> intro hc <;> have hc' := hc <;> try simp only [decide_eq_true_eq, decide_eq_false_iff_not, Bool.not_eq_true', Bool.not_eq_false', Bool.not_eq_true, Bool.not_eq_false, beq_iff_eq, bne_iff_ne, beq_eq_false_iff_ne, bne_eq_false_iff_eq, Int.not_lt, Int.not_le, ge_iff_le, gt_iff_lt, not_and, ne_eq, Decidable.not_not] at hc'
            all_goals (try (dsimp only [st, setL, AV.cells, List.set_cons_zero, List.set_cons_succ, List.drop_zero, List.drop_succ_cons, List.take_zero, List.take_succ_cons, Nat.zero_add, Nat.add_zero, Nat.reduceAdd, List.cons_append, List.nil_append, List.eraseIdx_cons_zero, List.eraseIdx_cons_succ]))
            all_goals (refine W ?_)
            · obtain ⟨y, hy, hym, hd⟩ := drop_at (l := p.outs) h0 hc'
              have hyb := hout y hym
              have l1 : y.toNat < o.length := by omega
              have g1 : o[y.toNat]? = some o[y.toNat] := List.getElem?_eq_getElem l1
              have e : pickM o (p.outs.take (i + 1).toNat) = pickM o (p.outs.take i.toNat) ++ [o[y.toNat]] := by
                rw [toNat_succ h0, take_snoc hy, pickM, List.filterMap_append]
                simp [g1, pickM]
              refine LS_ix (fun h' HL => ho.le HL.le) enI1 hy h0 rfl rfl fun q1 o1 hrow1 => ?_
              try (dsimp only [st, setL, AV.cells, List.set_cons_zero, List.set_cons_succ, List.drop_zero, List.drop_succ_cons, List.take_zero, List.take_succ_cons, Nat.zero_add, Nat.add_zero, Nat.reduceAdd, List.cons_append, List.nil_append, List.eraseIdx_cons_zero, List.eraseIdx_cons_succ])
              refine W ?_
              refine LS_ix (fun h' HL => HL.rdI 1 rfl enMat4 (by decide)) enMat4 g1 hyb.1 rfl rfl fun q2 o2 hrow2 => ?_
              try (dsimp only [st, setL, AV.cells, List.set_cons_zero, List.set_cons_succ, List.drop_zero, List.drop_succ_cons, List.take_zero, List.take_succ_cons, Nat.zero_add, Nat.add_zero, Nat.reduceAdd, List.cons_append, List.nil_append, List.eraseIdx_cons_zero, List.eraseIdx_cons_succ])
              refine W ?_
              refine LS_lt [o[y.toNat]] rfl rfl (by decide) rfl rfl rfl rfl enMat4 rfl rfl fun lit4 hlit4 slit4 => ?_
              try (dsimp only [st, setL, AV.cells, List.set_cons_zero, List.set_cons_succ, List.drop_zero, List.drop_succ_cons, List.take_zero, List.take_succ_cons, Nat.zero_add, Nat.add_zero, Nat.reduceAdd, List.cons_append, List.nil_append, List.eraseIdx_cons_zero, List.eraseIdx_cons_succ])
              refine W ?_
              refine LS_ap 1 rfl (fun h' HL => HL.rdI 0 rfl enMat4 (by decide)) enMat4 (by decide) (by simp) (by simp; omega) (by simp; omega) rfl rfl rfl fun w5 hw5 sw5 => ?_
              try (dsimp only [st, setL, AV.cells, List.set_cons_zero, List.set_cons_succ, List.drop_zero, List.drop_succ_cons, List.take_zero, List.take_succ_cons, Nat.zero_add, Nat.add_zero, Nat.reduceAdd, List.cons_append, List.nil_append, List.eraseIdx_cons_zero, List.eraseIdx_cons_succ])
              refine W ?_
              refine LIL_drop 1 ?_
              refine IH (n - 1) _ _ (by omega) ⟨i + 1, _, exJ rfl, by rw [e]; rfl, by omega, by omega⟩
            · have ei : i.toNat = p.outs.length := by omega
              rw [ei, List.take_length]
              refine RET fun h' HL => ?_
              try dsimp only [oneA]
              exact TupQ.of (HL.ownI 0 rfl enMat4 (by decide))
    · have hx : rmOk p m l = false := by rw [rmOk, nt hc]; simp
      rw [rmR, hx, if_neg (by simp)]
      refine RET fun h' HL => ?_
      try dsimp only [oneA]
      exact TupQ.none HL
  · have hx : rmOk p m l = false := by rw [rmOk, nt hc, Bool.false_and]
    rw [rmR, hx, if_neg (by simp)]
    refine RET fun h' HL => ?_
    try dsimp only [oneA]
    exact TupQ.none HL

theorem rmR_len {p : PlanM} {m : Int} {l : List MatM} : (rmR p m l).length ≤ 1048576 := by
  unfold rmR
  split
  · rename_i e
    simp only [rmOk, Bool.and_eq_true] at e
    obtain ⟨h1, h2, h3, h4, hf, h6⟩ := planOk_out e.1
    exact Nat.le_trans (pickM_len _ _) (by omega)
  · simp

theorem lawFnExactRunMatrices_ac (p : PlanM) (v : AV) (m : Int) (wm : (Lit.int .i64 m).wf = true) (l : List MatM) (w : AV) (h : AH) (hR : PlR h v p) (hw0 : p.wf) (hl : RdG 4 enMat h w l) (wl : ∀ n ∈ l, n.wf) (ml : l.length ≤ maxLen) : AC Try.prog 14 [v, .i .i64 m, w] h (fun r h' => r = .b true) := by
  have hR0 := hR
  have hlw := hl.len
  obtain ⟨vs, vo, rfl, hs, ho⟩ := hR
  refine e14 _ _ _ fun wf => ?_
  unfold c14
  refine LI_start wf ?_
  refine W ?_
  refine LS_bxn rfl (sc_cons rfl (sc_cons (rd_sc hs) (sc_cons (rd_sc ho) rfl))) fun b1 => ?_
  try (dsimp only [st, setL, AV.cells, List.set_cons_zero, List.set_cons_succ, List.drop_zero, List.drop_succ_cons, List.take_zero, List.take_succ_cons, Nat.zero_add, Nat.add_zero, Nat.reduceAdd, List.cons_append, List.nil_append, List.eraseIdx_cons_zero, List.eraseIdx_cons_succ])
  refine W ?_
  refine LS_cq (fun h' HL wf => szPlanB_ac p _ 1048576 h' (hR0.le HL.le) (by omega) (by omega) hw0.ls hw0.lo) rfl rfl ?_
  try (dsimp only [st, setL, AV.cells, List.set_cons_zero, List.set_cons_succ, List.drop_zero, List.drop_succ_cons, List.take_zero, List.take_succ_cons, Nat.zero_add, Nat.add_zero, Nat.reduceAdd, List.cons_append, List.nil_append, List.eraseIdx_cons_zero, List.eraseIdx_cons_succ])
  refine W ?_
  rintro _ ⟨z, rfl, hzk, hz⟩
  try (dsimp only [st, setL, AV.cells, List.set_cons_zero, List.set_cons_succ, List.drop_zero, List.drop_succ_cons, List.take_zero, List.take_succ_cons, Nat.zero_add, Nat.add_zero, Nat.reduceAdd, List.cons_append, List.nil_append, List.eraseIdx_cons_zero, List.eraseIdx_cons_succ])
  refine W ?_
  (first | refine LS_gt rfl ?_ ?_ | refine LS_gf rfl ?_ ?_ | refine LI_cond rfl ?_ ?_) <;> intro hc <;> have hc' := hc <;> try simp only [decide_eq_true_eq, decide_eq_false_iff_not, Bool.not_eq_true', Bool.not_eq_false', Bool.not_eq_true, Bool.not_eq_false, beq_iff_eq, bne_iff_ne, beq_eq_false_iff_ne, bne_eq_false_iff_eq, Int.not_lt, Int.not_le, ge_iff_le, gt_iff_lt, not_and, ne_eq, Decidable.not_not] at hc'
  all_goals (try (dsimp only [st, setL, AV.cells, List.set_cons_zero, List.set_cons_succ, List.drop_zero, List.drop_succ_cons, List.take_zero, List.take_succ_cons, Nat.zero_add, Nat.add_zero, Nat.reduceAdd, List.cons_append, List.nil_append, List.eraseIdx_cons_zero, List.eraseIdx_cons_succ]))
  all_goals (refine W ?_)
  · refine RET fun h' HL => ?_
    try dsimp only [oneA]
  · have hw := psm_of hw0 hz hc'
    refine LS_c0 (fun h' HL wf => szMatS_ac l w z h' (hl.le HL.le) (by omega) (by omega) ml) rfl rfl ?_
    try (dsimp only [st, setL, AV.cells, List.set_cons_zero, List.set_cons_succ, List.drop_zero, List.drop_succ_cons, List.take_zero, List.take_succ_cons, Nat.zero_add, Nat.add_zero, Nat.reduceAdd, List.cons_append, List.nil_append, List.eraseIdx_cons_zero, List.eraseIdx_cons_succ])
    refine W ?_
    (first | refine LS_gt rfl ?_ ?_ | refine LS_gf rfl ?_ ?_ | refine LI_cond rfl ?_ ?_) <;> intro hc <;> have hc' := hc <;> try simp only [decide_eq_true_eq, decide_eq_false_iff_not, Bool.not_eq_true', Bool.not_eq_false', Bool.not_eq_true, Bool.not_eq_false, beq_iff_eq, bne_iff_ne, beq_eq_false_iff_ne, bne_eq_false_iff_eq, Int.not_lt, Int.not_le, ge_iff_le, gt_iff_lt, not_and, ne_eq, Decidable.not_not] at hc'
    all_goals (try (dsimp only [st, setL, AV.cells, List.set_cons_zero, List.set_cons_succ, List.drop_zero, List.drop_succ_cons, List.take_zero, List.take_succ_cons, Nat.zero_add, Nat.add_zero, Nat.reduceAdd, List.cons_append, List.nil_append, List.eraseIdx_cons_zero, List.eraseIdx_cons_succ]))
    all_goals (refine W ?_)
    · refine RET fun h' HL => ?_
      try dsimp only [oneA]
    · have hll : l.length ≤ 1048576 := by split at hc' <;> omega
      have hls := hw.ls
      have hlo := hw.lo
      have hrl : (rmR p m l).length ≤ 1048576 := rmR_len
      refine LS_c1 (fun h' HL wf => toPlanX_ac p _ h' (hR0.le HL.le) hw) rfl rfl ?_
      try (dsimp only [st, setL, AV.cells, List.set_cons_zero, List.set_cons_succ, List.drop_zero, List.drop_succ_cons, List.take_zero, List.take_succ_cons, Nat.zero_add, Nat.add_zero, Nat.reduceAdd, List.cons_append, List.nil_append, List.eraseIdx_cons_zero, List.eraseIdx_cons_succ])
      refine W ?_
      rintro _ _ ⟨vs1, vo1, ⟨rfl, l1, l2, s1, s2⟩, rfl⟩
      try (dsimp only [st, setL, AV.cells, List.set_cons_zero, List.set_cons_succ, List.drop_zero, List.drop_succ_cons, List.take_zero, List.take_succ_cons, Nat.zero_add, Nat.add_zero, Nat.reduceAdd, List.cons_append, List.nil_append, List.eraseIdx_cons_zero, List.eraseIdx_cons_succ])
      refine W ?_
      refine LS_co (fun h' HL wf => toMatS_ac l w h' (hl.le HL.le) hll) enMat4 rfl rfl fun x1 lx1 sx1 => ?_
      try (dsimp only [st, setL, AV.cells, List.set_cons_zero, List.set_cons_succ, List.drop_zero, List.drop_succ_cons, List.take_zero, List.take_succ_cons, Nat.zero_add, Nat.add_zero, Nat.reduceAdd, List.cons_append, List.nil_append, List.eraseIdx_cons_zero, List.eraseIdx_cons_succ])
      refine W ?_
      refine LS_c1 (fun h' HL wf => specRM_ac p m l _ x1 h' (plr_of HL 1 2 rfl rfl) hw (HL.rdI 0 rfl enMat4 (by decide)) hll) rfl rfl ?_
      try (dsimp only [st, setL, AV.cells, List.set_cons_zero, List.set_cons_succ, List.drop_zero, List.drop_succ_cons, List.take_zero, List.take_succ_cons, Nat.zero_add, Nat.add_zero, Nat.reduceAdd, List.cons_append, List.nil_append, List.eraseIdx_cons_zero, List.eraseIdx_cons_succ])
      refine W ?_
      rintro _ _ ⟨w0, rfl, lw, sw, rfl⟩
      try (dsimp only [st, setL, AV.cells, List.set_cons_zero, List.set_cons_succ, List.drop_zero, List.drop_succ_cons, List.take_zero, List.take_succ_cons, Nat.zero_add, Nat.add_zero, Nat.reduceAdd, List.cons_append, List.nil_append, List.eraseIdx_cons_zero, List.eraseIdx_cons_succ])
      refine W ?_
      refine LS_c1 (fun h' HL wf => toPlanX_ac p _ h' (hR0.le HL.le) hw) rfl rfl ?_
      try (dsimp only [st, setL, AV.cells, List.set_cons_zero, List.set_cons_succ, List.drop_zero, List.drop_succ_cons, List.take_zero, List.take_succ_cons, Nat.zero_add, Nat.add_zero, Nat.reduceAdd, List.cons_append, List.nil_append, List.eraseIdx_cons_zero, List.eraseIdx_cons_succ])
      refine W ?_
      rintro _ _ ⟨vs2, vo2, ⟨rfl, l3, l4, s3, s4⟩, rfl⟩
      try (dsimp only [st, setL, AV.cells, List.set_cons_zero, List.set_cons_succ, List.drop_zero, List.drop_succ_cons, List.take_zero, List.take_succ_cons, Nat.zero_add, Nat.add_zero, Nat.reduceAdd, List.cons_append, List.nil_append, List.eraseIdx_cons_zero, List.eraseIdx_cons_succ])
      refine W ?_
      refine LS_al rfl fun b2 => ?_
      try (dsimp only [st, setL, AV.cells, List.set_cons_zero, List.set_cons_succ, List.drop_zero, List.drop_succ_cons, List.take_zero, List.take_succ_cons, Nat.zero_add, Nat.add_zero, Nat.reduceAdd, List.cons_append, List.nil_append, List.eraseIdx_cons_zero, List.eraseIdx_cons_succ])
      refine W ?_
      refine LS_co (fun h' HL wf => toMatS_ac l w h' (hl.le HL.le) hll) enMat4 rfl rfl fun x2 lx2 sx2 => ?_
      try (dsimp only [st, setL, AV.cells, List.set_cons_zero, List.set_cons_succ, List.drop_zero, List.drop_succ_cons, List.take_zero, List.take_succ_cons, Nat.zero_add, Nat.add_zero, Nat.reduceAdd, List.cons_append, List.nil_append, List.eraseIdx_cons_zero, List.eraseIdx_cons_succ])
      refine W ?_
      refine LS_c1 (fun h' HL wf => implRM_ac p m l _ x2 h' (plr_of HL 2 3 rfl rfl) hw (HL.rdI 0 rfl enMat4 (by decide)) hll) rfl rfl ?_
      try (dsimp only [st, setL, AV.cells, List.set_cons_zero, List.set_cons_succ, List.drop_zero, List.drop_succ_cons, List.take_zero, List.take_succ_cons, Nat.zero_add, Nat.add_zero, Nat.reduceAdd, List.cons_append, List.nil_append, List.eraseIdx_cons_zero, List.eraseIdx_cons_succ])
      refine W ?_
      rintro _ _ ⟨g0, rfl, lg, sg, rfl⟩
      try (dsimp only [st, setL, AV.cells, List.set_cons_zero, List.set_cons_succ, List.drop_zero, List.drop_succ_cons, List.take_zero, List.take_succ_cons, Nat.zero_add, Nat.add_zero, Nat.reduceAdd, List.cons_append, List.nil_append, List.eraseIdx_cons_zero, List.eraseIdx_cons_succ])
      refine W ?_
      refine LS_c0 (fun h' HL wf => eqMatS_same _ g0 w0 h' (HL.rdI 0 rfl enMat4 (by decide)) (HL.rdI 5 rfl enMat4 (by decide)) (by omega)) rfl rfl ?_
      try (dsimp only [st, setL, AV.cells, List.set_cons_zero, List.set_cons_succ, List.drop_zero, List.drop_succ_cons, List.take_zero, List.take_succ_cons, Nat.zero_add, Nat.add_zero, Nat.reduceAdd, List.cons_append, List.nil_append, List.eraseIdx_cons_zero, List.eraseIdx_cons_succ])
      refine W ?_
      first | (refine LS_gtnH rfl (by simp) ?_; intro hg; try (dsimp only [st, setL, AV.cells, List.set_cons_zero, List.set_cons_succ, List.drop_zero, List.drop_succ_cons, List.take_zero, List.take_succ_cons, Nat.zero_add, Nat.add_zero, Nat.reduceAdd, List.cons_append, List.nil_append, List.eraseIdx_cons_zero, List.eraseIdx_cons_succ])) | (refine LS_gfnH rfl (by simp) ?_; intro hg; try (dsimp only [st, setL, AV.cells, List.set_cons_zero, List.set_cons_succ, List.drop_zero, List.drop_succ_cons, List.take_zero, List.take_succ_cons, Nat.zero_add, Nat.add_zero, Nat.reduceAdd, List.cons_append, List.nil_append, List.eraseIdx_cons_zero, List.eraseIdx_cons_succ])) | (refine LI_cond_fH rfl (by simp) ?_; intro hg)
      refine W ?_
      refine dz14_0 ?_
      refine WX ?_
      refine W ?_
      refine LX_c1 (fun h' HL wf => toPlanX_ac p _ h'.frz (hR0.le HL.le).frz hw) rfl rfl noG ?_
      try (dsimp only [st, setL, AV.cells, List.set_cons_zero, List.set_cons_succ, List.drop_zero, List.drop_succ_cons, List.take_zero, List.take_succ_cons, Nat.zero_add, Nat.add_zero, Nat.reduceAdd, List.cons_append, List.nil_append, List.eraseIdx_cons_zero, List.eraseIdx_cons_succ])
      refine WX ?_
      refine W ?_
      rintro _ _ ⟨vs3, vo3, ⟨rfl, l5, l6, s5, s6⟩, rfl⟩
      try (dsimp only [st, setL, AV.cells, List.set_cons_zero, List.set_cons_succ, List.drop_zero, List.drop_succ_cons, List.take_zero, List.take_succ_cons, Nat.zero_add, Nat.add_zero, Nat.reduceAdd, List.cons_append, List.nil_append, List.eraseIdx_cons_zero, List.eraseIdx_cons_succ])
      refine WX ?_
      refine LX_c0 (fun h' HL wf => eqPlan_same p _ _ h'.frz (plr_of HL 5 6 rfl rfl).frz (plr_of HL 0 1 rfl rfl).frz hw.ls hw.lo) rfl rfl noG ?_
      try (dsimp only [st, setL, AV.cells, List.set_cons_zero, List.set_cons_succ, List.drop_zero, List.drop_succ_cons, List.take_zero, List.take_succ_cons, Nat.zero_add, Nat.add_zero, Nat.reduceAdd, List.cons_append, List.nil_append, List.eraseIdx_cons_zero, List.eraseIdx_cons_succ])
      refine WX ?_
      refine W ?_
      refine LS_drop 2 ?_
      refine LS_co (fun h' HL wf => toMatS_ac l w h' (hl.le HL.le) hll) enMat4 rfl rfl fun x3 lx3 sx3 => ?_
      try (dsimp only [st, setL, AV.cells, List.set_cons_zero, List.set_cons_succ, List.drop_zero, List.drop_succ_cons, List.take_zero, List.take_succ_cons, Nat.zero_add, Nat.add_zero, Nat.reduceAdd, List.cons_append, List.nil_append, List.eraseIdx_cons_zero, List.eraseIdx_cons_succ])
      refine W ?_
      refine LS_c0 (fun h' HL wf => eqMatS_same _ x2 x3 h' (HL.rdI 2 rfl enMat4 (by decide)) (HL.rdI 0 rfl enMat4 (by decide)) (by omega)) rfl rfl ?_
      try (dsimp only [st, setL, AV.cells, List.set_cons_zero, List.set_cons_succ, List.drop_zero, List.drop_succ_cons, List.take_zero, List.take_succ_cons, Nat.zero_add, Nat.add_zero, Nat.reduceAdd, List.cons_append, List.nil_append, List.eraseIdx_cons_zero, List.eraseIdx_cons_succ])
      refine W ?_
      try ((first | (refine LS_gtnH rfl (by simp) ?_; intro hg; try (dsimp only [st, setL, AV.cells, List.set_cons_zero, List.set_cons_succ, List.drop_zero, List.drop_succ_cons, List.take_zero, List.take_succ_cons, Nat.zero_add, Nat.add_zero, Nat.reduceAdd, List.cons_append, List.nil_append, List.eraseIdx_cons_zero, List.eraseIdx_cons_succ])) | (refine LS_gfnH rfl (by simp) ?_; intro hg; try (dsimp only [st, setL, AV.cells, List.set_cons_zero, List.set_cons_succ, List.drop_zero, List.drop_succ_cons, List.take_zero, List.take_succ_cons, Nat.zero_add, Nat.add_zero, Nat.reduceAdd, List.cons_append, List.nil_append, List.eraseIdx_cons_zero, List.eraseIdx_cons_succ])) | (refine LI_cond_fH rfl (by simp) ?_; intro hg)); refine W ?_)
      refine LS_drop 1 (LS_rot 4 rfl (LS_rot 4 rfl ?_))
      refine LS_cm (.refl _) (fun h' HL wf => markPlan_ac p vs2 vo2 1 h h' _ HL (by omega) (by omega)) rfl rfl ?_
      try (dsimp only [st, setL, AV.cells, List.set_cons_zero, List.set_cons_succ, List.drop_zero, List.drop_succ_cons, List.take_zero, List.take_succ_cons, Nat.zero_add, Nat.add_zero, Nat.reduceAdd, List.cons_append, List.nil_append, List.eraseIdx_cons_zero, List.eraseIdx_cons_succ])
      refine W ?_
      rintro _ _ ⟨rfl, rfl⟩
      try (dsimp only [st, setL, AV.cells, List.set_cons_zero, List.set_cons_succ, List.drop_zero, List.drop_succ_cons, List.take_zero, List.take_succ_cons, Nat.zero_add, Nat.add_zero, Nat.reduceAdd, List.cons_append, List.nil_append, List.eraseIdx_cons_zero, List.eraseIdx_cons_succ])
      refine W ?_
      refine LS_rot 3 rfl ?_
      refine LS_cm (.refl _) (fun h' HL wf => markMatSL_ac l x2 _ h h' _ HL (by omega) (by omega)) rfl rfl ?_
      try (dsimp only [st, setL, AV.cells, List.set_cons_zero, List.set_cons_succ, List.drop_zero, List.drop_succ_cons, List.take_zero, List.take_succ_cons, Nat.zero_add, Nat.add_zero, Nat.reduceAdd, List.cons_append, List.nil_append, List.eraseIdx_cons_zero, List.eraseIdx_cons_succ])
      refine W ?_
      rintro _ _ ⟨rfl, rfl⟩
      try (dsimp only [st, setL, AV.cells, List.set_cons_zero, List.set_cons_succ, List.drop_zero, List.drop_succ_cons, List.take_zero, List.take_succ_cons, Nat.zero_add, Nat.add_zero, Nat.reduceAdd, List.cons_append, List.nil_append, List.eraseIdx_cons_zero, List.eraseIdx_cons_succ])
      refine W ?_
      first | (refine LS_gyH rfl (by simp; omega) ?_; intro hg) | (refine LI_cond_tH rfl (by simp; omega) ?_; intro hg)
      refine W ?_
      refine LS_c0 (fun h' HL wf => eqMatS_same _ g0 w0 h' (HL.rdI 3 rfl enMat4 (by decide)) (HL.rdI 5 rfl enMat4 (by decide)) (by omega)) rfl rfl ?_
      try (dsimp only [st, setL, AV.cells, List.set_cons_zero, List.set_cons_succ, List.drop_zero, List.drop_succ_cons, List.take_zero, List.take_succ_cons, Nat.zero_add, Nat.add_zero, Nat.reduceAdd, List.cons_append, List.nil_append, List.eraseIdx_cons_zero, List.eraseIdx_cons_succ])
      refine W ?_
      try ((first | (refine LS_gtnH rfl (by simp) ?_; intro hg; try (dsimp only [st, setL, AV.cells, List.set_cons_zero, List.set_cons_succ, List.drop_zero, List.drop_succ_cons, List.take_zero, List.take_succ_cons, Nat.zero_add, Nat.add_zero, Nat.reduceAdd, List.cons_append, List.nil_append, List.eraseIdx_cons_zero, List.eraseIdx_cons_succ])) | (refine LS_gfnH rfl (by simp) ?_; intro hg; try (dsimp only [st, setL, AV.cells, List.set_cons_zero, List.set_cons_succ, List.drop_zero, List.drop_succ_cons, List.take_zero, List.take_succ_cons, Nat.zero_add, Nat.add_zero, Nat.reduceAdd, List.cons_append, List.nil_append, List.eraseIdx_cons_zero, List.eraseIdx_cons_succ])) | (refine LI_cond_fH rfl (by simp) ?_; intro hg)); refine W ?_)
      refine LS_rot 3 rfl ?_
      refine LS_cm (.refl _) (fun h' HL wf => markMatSL_ac (rmR p m l) g0 1 h h' _ HL (by omega) (by omega)) rfl rfl ?_
      try (dsimp only [st, setL, AV.cells, List.set_cons_zero, List.set_cons_succ, List.drop_zero, List.drop_succ_cons, List.take_zero, List.take_succ_cons, Nat.zero_add, Nat.add_zero, Nat.reduceAdd, List.cons_append, List.nil_append, List.eraseIdx_cons_zero, List.eraseIdx_cons_succ])
      refine W ?_
      rintro _ _ ⟨rfl, rfl⟩
      try (dsimp only [st, setL, AV.cells, List.set_cons_zero, List.set_cons_succ, List.drop_zero, List.drop_succ_cons, List.take_zero, List.take_succ_cons, Nat.zero_add, Nat.add_zero, Nat.reduceAdd, List.cons_append, List.nil_append, List.eraseIdx_cons_zero, List.eraseIdx_cons_succ])
      refine W ?_
      refine LS_c0 (fun h' HL wf => heldMatSL_ac (rmR p m l).length g0 1 h' (HL.rdI 0 rfl enMat4 (by decide)) (by omega) (by omega)) rfl rfl ?_
      try (dsimp only [st, setL, AV.cells, List.set_cons_zero, List.set_cons_succ, List.drop_zero, List.drop_succ_cons, List.take_zero, List.take_succ_cons, Nat.zero_add, Nat.add_zero, Nat.reduceAdd, List.cons_append, List.nil_append, List.eraseIdx_cons_zero, List.eraseIdx_cons_succ])
      refine W ?_
      try ((first | (refine LS_gtnH rfl (by simp; omega) ?_; intro hg; try (dsimp only [st, setL, AV.cells, List.set_cons_zero, List.set_cons_succ, List.drop_zero, List.drop_succ_cons, List.take_zero, List.take_succ_cons, Nat.zero_add, Nat.add_zero, Nat.reduceAdd, List.cons_append, List.nil_append, List.eraseIdx_cons_zero, List.eraseIdx_cons_succ])) | (refine LS_gfnH rfl (by simp; omega) ?_; intro hg; try (dsimp only [st, setL, AV.cells, List.set_cons_zero, List.set_cons_succ, List.drop_zero, List.drop_succ_cons, List.take_zero, List.take_succ_cons, Nat.zero_add, Nat.add_zero, Nat.reduceAdd, List.cons_append, List.nil_append, List.eraseIdx_cons_zero, List.eraseIdx_cons_succ])) | (refine LI_cond_fH rfl (by simp; omega) ?_; intro hg)); refine W ?_)
      try ((first | (refine LS_gtnH rfl (by simp) ?_; intro hg; try (dsimp only [st, setL, AV.cells, List.set_cons_zero, List.set_cons_succ, List.drop_zero, List.drop_succ_cons, List.take_zero, List.take_succ_cons, Nat.zero_add, Nat.add_zero, Nat.reduceAdd, List.cons_append, List.nil_append, List.eraseIdx_cons_zero, List.eraseIdx_cons_succ])) | (refine LS_gfnH rfl (by simp) ?_; intro hg; try (dsimp only [st, setL, AV.cells, List.set_cons_zero, List.set_cons_succ, List.drop_zero, List.drop_succ_cons, List.take_zero, List.take_succ_cons, Nat.zero_add, Nat.add_zero, Nat.reduceAdd, List.cons_append, List.nil_append, List.eraseIdx_cons_zero, List.eraseIdx_cons_succ])) | (refine LI_cond_fH rfl (by simp) ?_; intro hg)); refine W ?_)
      refine LS_c1 (fun h' HL wf => toPlanX_ac p _ h' (hR0.le HL.le) hw) rfl rfl ?_
      try (dsimp only [st, setL, AV.cells, List.set_cons_zero, List.set_cons_succ, List.drop_zero, List.drop_succ_cons, List.take_zero, List.take_succ_cons, Nat.zero_add, Nat.add_zero, Nat.reduceAdd, List.cons_append, List.nil_append, List.eraseIdx_cons_zero, List.eraseIdx_cons_succ])
      refine W ?_
      rintro _ _ ⟨vs4, vo4, ⟨rfl, l7, l8, s7, s8⟩, rfl⟩
      try (dsimp only [st, setL, AV.cells, List.set_cons_zero, List.set_cons_succ, List.drop_zero, List.drop_succ_cons, List.take_zero, List.take_succ_cons, Nat.zero_add, Nat.add_zero, Nat.reduceAdd, List.cons_append, List.nil_append, List.eraseIdx_cons_zero, List.eraseIdx_cons_succ])
      refine W ?_
      refine LS_co (fun h' HL wf => toMatS_ac l w h' (hl.le HL.le) hll) enMat4 rfl rfl fun x4 lx4 sx4 => ?_
      try (dsimp only [st, setL, AV.cells, List.set_cons_zero, List.set_cons_succ, List.drop_zero, List.drop_succ_cons, List.take_zero, List.take_succ_cons, Nat.zero_add, Nat.add_zero, Nat.reduceAdd, List.cons_append, List.nil_append, List.eraseIdx_cons_zero, List.eraseIdx_cons_succ])
      refine W ?_
      refine LS_c1 (fun h' HL wf => implRM_ac p m l _ x4 h' (plr_of HL 1 2 rfl rfl) hw (HL.rdI 0 rfl enMat4 (by decide)) hll) rfl rfl ?_
      try (dsimp only [st, setL, AV.cells, List.set_cons_zero, List.set_cons_succ, List.drop_zero, List.drop_succ_cons, List.take_zero, List.take_succ_cons, Nat.zero_add, Nat.add_zero, Nat.reduceAdd, List.cons_append, List.nil_append, List.eraseIdx_cons_zero, List.eraseIdx_cons_succ])
      refine W ?_
      rintro _ _ ⟨g1, rfl, lg1, sg1, rfl⟩
      try (dsimp only [st, setL, AV.cells, List.set_cons_zero, List.set_cons_succ, List.drop_zero, List.drop_succ_cons, List.take_zero, List.take_succ_cons, Nat.zero_add, Nat.add_zero, Nat.reduceAdd, List.cons_append, List.nil_append, List.eraseIdx_cons_zero, List.eraseIdx_cons_succ])
      refine W ?_
      refine LS_c0 (fun h' HL wf => eqMatS_same _ g1 w0 h' (HL.rdI 0 rfl enMat4 (by decide)) (HL.rdI 9 rfl enMat4 (by decide)) (by omega)) rfl rfl ?_
      try (dsimp only [st, setL, AV.cells, List.set_cons_zero, List.set_cons_succ, List.drop_zero, List.drop_succ_cons, List.take_zero, List.take_succ_cons, Nat.zero_add, Nat.add_zero, Nat.reduceAdd, List.cons_append, List.nil_append, List.eraseIdx_cons_zero, List.eraseIdx_cons_succ])
      refine W ?_
      try ((first | (refine LS_gtnH rfl (by simp) ?_; intro hg; try (dsimp only [st, setL, AV.cells, List.set_cons_zero, List.set_cons_succ, List.drop_zero, List.drop_succ_cons, List.take_zero, List.take_succ_cons, Nat.zero_add, Nat.add_zero, Nat.reduceAdd, List.cons_append, List.nil_append, List.eraseIdx_cons_zero, List.eraseIdx_cons_succ])) | (refine LS_gfnH rfl (by simp) ?_; intro hg; try (dsimp only [st, setL, AV.cells, List.set_cons_zero, List.set_cons_succ, List.drop_zero, List.drop_succ_cons, List.take_zero, List.take_succ_cons, Nat.zero_add, Nat.add_zero, Nat.reduceAdd, List.cons_append, List.nil_append, List.eraseIdx_cons_zero, List.eraseIdx_cons_succ])) | (refine LI_cond_fH rfl (by simp) ?_; intro hg)); refine W ?_)
      refine LS_c0 (fun h' HL wf => heldMatSL_ac (rmR p m l).length g0 1 h' (HL.rdI 4 rfl enMat4 (by decide)) (by omega) (by omega)) rfl rfl ?_
      try (dsimp only [st, setL, AV.cells, List.set_cons_zero, List.set_cons_succ, List.drop_zero, List.drop_succ_cons, List.take_zero, List.take_succ_cons, Nat.zero_add, Nat.add_zero, Nat.reduceAdd, List.cons_append, List.nil_append, List.eraseIdx_cons_zero, List.eraseIdx_cons_succ])
      refine W ?_
      try ((first | (refine LS_gtnH rfl (by simp; omega) ?_; intro hg; try (dsimp only [st, setL, AV.cells, List.set_cons_zero, List.set_cons_succ, List.drop_zero, List.drop_succ_cons, List.take_zero, List.take_succ_cons, Nat.zero_add, Nat.add_zero, Nat.reduceAdd, List.cons_append, List.nil_append, List.eraseIdx_cons_zero, List.eraseIdx_cons_succ])) | (refine LS_gfnH rfl (by simp; omega) ?_; intro hg; try (dsimp only [st, setL, AV.cells, List.set_cons_zero, List.set_cons_succ, List.drop_zero, List.drop_succ_cons, List.take_zero, List.take_succ_cons, Nat.zero_add, Nat.add_zero, Nat.reduceAdd, List.cons_append, List.nil_append, List.eraseIdx_cons_zero, List.eraseIdx_cons_succ])) | (refine LI_cond_fH rfl (by simp; omega) ?_; intro hg)); refine W ?_)
      try ((first | (refine LS_gtnH rfl (by simp) ?_; intro hg; try (dsimp only [st, setL, AV.cells, List.set_cons_zero, List.set_cons_succ, List.drop_zero, List.drop_succ_cons, List.take_zero, List.take_succ_cons, Nat.zero_add, Nat.add_zero, Nat.reduceAdd, List.cons_append, List.nil_append, List.eraseIdx_cons_zero, List.eraseIdx_cons_succ])) | (refine LS_gfnH rfl (by simp) ?_; intro hg; try (dsimp only [st, setL, AV.cells, List.set_cons_zero, List.set_cons_succ, List.drop_zero, List.drop_succ_cons, List.take_zero, List.take_succ_cons, Nat.zero_add, Nat.add_zero, Nat.reduceAdd, List.cons_append, List.nil_append, List.eraseIdx_cons_zero, List.eraseIdx_cons_succ])) | (refine LI_cond_fH rfl (by simp) ?_; intro hg)); refine W ?_)
      refine RET fun h' HL => ?_
      try dsimp only [oneA]

def zeroP : AV := .agg [.i .i64 0, .ns, .ns]

/-- A plan handed back, and whether. -/
def TupP (q : PlanM) (ok : Bool) (r : AV) (M : List It) : Prop := ∃ ws wo, r = .tup [.agg [.i .i64 q.n, ws, wo], .b ok] ∧ lenA ws = some q.steps.length ∧ ws.sc = true ∧ lenA wo = some q.outs.length ∧ wo.sc = true ∧ M = [.sl ws 2 (q.steps.flatMap enStep), .sl wo 1 (q.outs.flatMap enI)]

theorem TupP.none {h0 h : AH} {L : List It} (H : Loq h0 h L) : ∃ M, TupP emptyPlan false (.tup [zeroP, .b false]) M ∧ Loq h0 h M := ⟨_, ⟨.ns, .ns, rfl, rfl, rfl, rfl, rfl, rfl⟩, loq_ns (loq_ns (H.sub (List.nil_sublist _)) 1) 2⟩
end Go.Proofs.Ytdeeeacnmkmeiaa
