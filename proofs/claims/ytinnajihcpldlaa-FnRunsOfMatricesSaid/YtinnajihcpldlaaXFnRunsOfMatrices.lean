/- The walk of the law FnRunsOfMatrices, part 3: what each function that it reaches computes. -/
import Derived.Test.YtinnajihcpldlaaXFnRunsOfMatricesb
namespace Go.Proofs.Ytinnajihcpldlaa
open Go.AL
set_option linter.unusedVariables false
set_option linter.unusedSimpArgs false
set_option maxRecDepth 100000
set_option maxHeartbeats 1000000
attribute [local irreducible] AS AI AIL OpR AC CW AWP ALoop LS LI LIL LThen LLoop LBlk LRet Lh AX OpV OpF

theorem lawFnRunsOfMatrices_ac (c1 : List Int) (v1 : AV) (c2 : List Int) (v2 : AV) (h : AH) (hR1 : RdG 1 enU h v1 c1) (w1 : ∀ n ∈ c1, (Lit.int .u8 n).wf = true) (m1 : c1.length ≤ maxLen) (hR2 : RdG 1 enU h v2 c2) (w2 : ∀ n ∈ c2, (Lit.int .u8 n).wf = true) (m2 : c2.length ≤ maxLen) :
    AC Try.prog 3 [v1, v2] h (fun r h' => r = .b true) := by
  have b1 := bytes_in w1
  have b2 := bytes_in w2
  have q1 : c1.length ≤ 9223372036854775807 := m1
  have q2 : c2.length ≤ 9223372036854775807 := m2
  refine e3 _ _ fun wf => ?_
  unfold c3
  refine LI_start wf ?_
  refine W ?_
  refine LS_c0 (fun h' HL wf => big_ac c1 c2 v1 v2 h' (hR1.le HL.le) (hR2.le HL.le) q1 q2) rfl rfl ?_
  try (dsimp only [st, setL, AV.cells, List.set_cons_zero, List.set_cons_succ, List.drop_zero, List.drop_succ_cons, List.take_zero, List.take_succ_cons, Nat.zero_add, Nat.add_zero, Nat.reduceAdd, List.cons_append, List.nil_append, List.eraseIdx_cons_zero, List.eraseIdx_cons_succ])
  refine W ?_
  (first | refine LS_gt rfl ?_ ?_ | refine LS_gf rfl ?_ ?_ | refine LI_cond rfl ?_ ?_) <;> intro hc <;> have hc' := hc <;> try simp only [decide_eq_true_eq, decide_eq_false_iff_not, Bool.not_eq_true', Bool.not_eq_false', Bool.not_eq_true, Bool.not_eq_false, beq_iff_eq, bne_iff_ne, beq_eq_false_iff_ne, bne_eq_false_iff_eq, Int.not_lt, Int.not_le, ge_iff_le, gt_iff_lt, not_and, ne_eq, Decidable.not_not] at hc'
  all_goals (try (dsimp only [st, setL, AV.cells, List.set_cons_zero, List.set_cons_succ, List.drop_zero, List.drop_succ_cons, List.take_zero, List.take_succ_cons, Nat.zero_add, Nat.add_zero, Nat.reduceAdd, List.cons_append, List.nil_append, List.eraseIdx_cons_zero, List.eraseIdx_cons_succ]))
  all_goals (refine W ?_)
  · refine RET fun h' HL => ?_
    try dsimp only [oneA]
  · refine LS_c1 (fun h' HL wf => DrawRunMatrices_ac c1 v1 h' (hR1.le HL.le) b1) rfl rfl ?_
    try (dsimp only [st, setL, AV.cells, List.set_cons_zero, List.set_cons_succ, List.drop_zero, List.drop_succ_cons, List.take_zero, List.take_succ_cons, Nat.zero_add, Nat.add_zero, Nat.reduceAdd, List.cons_append, List.nil_append, List.eraseIdx_cons_zero, List.eraseIdx_cons_succ])
    refine W ?_
    rintro _ _ ⟨p, ws, wo, vi, m, is, rfl, ⟨lw, sw, lo, so⟩, hB, ⟨lvi, svi, hisl, hisb⟩, hmb, rfl⟩
    have hp := hB.sm
    try (dsimp only [st, setL, AV.cells, List.set_cons_zero, List.set_cons_succ, List.drop_zero, List.drop_succ_cons, List.take_zero, List.take_succ_cons, Nat.zero_add, Nat.add_zero, Nat.reduceAdd, List.cons_append, List.nil_append, List.eraseIdx_cons_zero, List.eraseIdx_cons_succ])
    refine W ?_
    refine LS_al rfl fun b5 => ?_
    try (dsimp only [st, setL, AV.cells, List.set_cons_zero, List.set_cons_succ, List.drop_zero, List.drop_succ_cons, List.take_zero, List.take_succ_cons, Nat.zero_add, Nat.add_zero, Nat.reduceAdd, List.cons_append, List.nil_append, List.eraseIdx_cons_zero, List.eraseIdx_cons_succ])
    refine W ?_
    refine LS_c1 (fun h' HL wf => implRM_ac p m is _ _ h' (plr_of HL 2 3 rfl rfl) hp (HL.rdI 1 rfl enMat4 (by decide)) (by omega)) rfl rfl ?_
    try (dsimp only [st, setL, AV.cells, List.set_cons_zero, List.set_cons_succ, List.drop_zero, List.drop_succ_cons, List.take_zero, List.take_succ_cons, Nat.zero_add, Nat.add_zero, Nat.reduceAdd, List.cons_append, List.nil_append, List.eraseIdx_cons_zero, List.eraseIdx_cons_succ])
    refine W ?_
    rintro _ _ ⟨o1, rfl, lo1, so1, rfl⟩
    try (dsimp only [st, setL, AV.cells, List.set_cons_zero, List.set_cons_succ, List.drop_zero, List.drop_succ_cons, List.take_zero, List.take_succ_cons, Nat.zero_add, Nat.add_zero, Nat.reduceAdd, List.cons_append, List.nil_append, List.eraseIdx_cons_zero, List.eraseIdx_cons_succ])
    refine W ?_
    refine LS_c1 (fun h' HL wf => specRM_ac p m is _ _ h' (plr_of HL 3 4 rfl rfl) hp (HL.rdI 2 rfl enMat4 (by decide)) (by omega)) rfl rfl ?_
    try (dsimp only [st, setL, AV.cells, List.set_cons_zero, List.set_cons_succ, List.drop_zero, List.drop_succ_cons, List.take_zero, List.take_succ_cons, Nat.zero_add, Nat.add_zero, Nat.reduceAdd, List.cons_append, List.nil_append, List.eraseIdx_cons_zero, List.eraseIdx_cons_succ])
    refine W ?_
    rintro _ _ ⟨o2, rfl, lo2, so2, rfl⟩
    try (dsimp only [st, setL, AV.cells, List.set_cons_zero, List.set_cons_succ, List.drop_zero, List.drop_succ_cons, List.take_zero, List.take_succ_cons, Nat.zero_add, Nat.add_zero, Nat.reduceAdd, List.cons_append, List.nil_append, List.eraseIdx_cons_zero, List.eraseIdx_cons_succ])
    refine W ?_
    first | (refine LS_gyH rfl (by simp) ?_; intro hg) | (refine LI_cond_tH rfl (by simp) ?_; intro hg)
    refine W ?_
    first | (refine LS_gtnH rfl (by simp) ?_; intro hg; try (dsimp only [st, setL, AV.cells, List.set_cons_zero, List.set_cons_succ, List.drop_zero, List.drop_succ_cons, List.take_zero, List.take_succ_cons, Nat.zero_add, Nat.add_zero, Nat.reduceAdd, List.cons_append, List.nil_append, List.eraseIdx_cons_zero, List.eraseIdx_cons_succ])) | (refine LS_gfnH rfl (by simp) ?_; intro hg; try (dsimp only [st, setL, AV.cells, List.set_cons_zero, List.set_cons_succ, List.drop_zero, List.drop_succ_cons, List.take_zero, List.take_succ_cons, Nat.zero_add, Nat.add_zero, Nat.reduceAdd, List.cons_append, List.nil_append, List.eraseIdx_cons_zero, List.eraseIdx_cons_succ])) | (refine LI_cond_fH rfl (by simp) ?_; intro hg)
    refine W ?_
    cases hO : rmOk p m is
    · first | (refine LS_gyH rfl (rfl) ?_; intro hg) | (refine LI_cond_tH rfl (rfl) ?_; intro hg)
      refine W ?_
      refine RET fun h' HL => ?_
      try dsimp only [oneA]
    · first | (refine LS_gtnH rfl (rfl) ?_; intro hg; try (dsimp only [st, setL, AV.cells, List.set_cons_zero, List.set_cons_succ, List.drop_zero, List.drop_succ_cons, List.take_zero, List.take_succ_cons, Nat.zero_add, Nat.add_zero, Nat.reduceAdd, List.cons_append, List.nil_append, List.eraseIdx_cons_zero, List.eraseIdx_cons_succ])) | (refine LS_gfnH rfl (rfl) ?_; intro hg; try (dsimp only [st, setL, AV.cells, List.set_cons_zero, List.set_cons_succ, List.drop_zero, List.drop_succ_cons, List.take_zero, List.take_succ_cons, Nat.zero_add, Nat.add_zero, Nat.reduceAdd, List.cons_append, List.nil_append, List.eraseIdx_cons_zero, List.eraseIdx_cons_succ])) | (refine LI_cond_fH rfl (rfl) ?_; intro hg)
      refine W ?_
      obtain ⟨hk, hm, hn, hxm⟩ := rmOk_out hO
      have hx : ∀ x ∈ is, redM m x := fun x h => redM_of (hxm x h)
      obtain ⟨a1, a2, a3, a4, af, a6⟩ := planOk_out hk
      have e1 : oexL p = outE p p.outs := by rw [oexL, if_pos hk]
      have hol := rmR_ln hO
      refine LS_c1 (fun h' HL wf => OutputExponents_ac p _ h' (plr_of HL 4 5 rfl rfl) hp) rfl rfl ?_
      try (dsimp only [st, setL, AV.cells, List.set_cons_zero, List.set_cons_succ, List.drop_zero, List.drop_succ_cons, List.take_zero, List.take_succ_cons, Nat.zero_add, Nat.add_zero, Nat.reduceAdd, List.cons_append, List.nil_append, List.eraseIdx_cons_zero, List.eraseIdx_cons_succ])
      refine W ?_
      rintro f1 _ ⟨f1, us1, rfl, hu1, lf1, sf1, rfl⟩
      refine LS_perm List.perm_append_comm ?_
      try (dsimp only [st, setL, AV.cells, List.set_cons_zero, List.set_cons_succ, List.drop_zero, List.drop_succ_cons, List.take_zero, List.take_succ_cons, Nat.zero_add, Nat.add_zero, Nat.reduceAdd, List.cons_append, List.nil_append, List.eraseIdx_cons_zero, List.eraseIdx_cons_succ])
      rw [e1] at hu1
      rw [hk, e1]
      have g1 : us1.length = p.outs.length := by rw [hu1, outE, List.length_map]
      refine W ?_
      refine LIL_nl (k := 1) ?_
      refine LIL_ind (fun k a L => ∃ (dd : AV) (i : Int), (∃ r : Nat → AV, a = [r 0, r 1, r 2, r 3, r 4, .p b5 0, .i .i64 m, vi, o1, r 9, o2, r 11, f1, .b true, dd, r 15, r 16, r 17, r 18, r 19, r 20, r 21, r 22, r 23, r 24, r 25, r 26, r 27, r 28, r 29, r 30, r 31, r 32, r 33, r 34, r 35, r 36, r 37, r 38, r 39, r 40, r 41, r 42, r 43, r 44, r 45, r 46, r 47, r 48, r 49, r 50, r 51, r 52, r 53, r 54, r 55, r 56, r 57, r 58, r 59, r 60, r 61, r 62, vi, .i .i64 is.length, .i .i64 i, r 66, r 67, r 68, r 69, r 70, r 71, r 72, r 73, r 74, r 75, r 76, r 77, r 78, r 79, r 80, r 81, r 82, r 83, r 84, r 85, r 86, r 87, r 88, r 89, r 90, r 91, r 92, r 93, r 94, r 95, r 96, r 97, r 98, r 99, r 100, r 101, r 102, r 103, r 104, r 105, r 106, r 107, r 108, r 109, r 110, r 111, r 112, r 113, r 114, r 115, r 116, r 117, r 118, r 119, r 120, r 121, r 122, r 123, r 124, r 125, r 126, r 127, r 128, r 129, r 130, r 131, r 132, r 133, r 134, r 135, r 136, r 137, r 138, r 139, r 140, r 141, r 142, r 143, r 144, r 145, r 146, r 147, r 148, r 149, r 150, r 151, r 152, r 153, r 154, r 155, r 156, r 157, r 158, r 159, r 160, r 161, r 162]) ∧ L = .sl dd 1 (((is.take i.toNat).map (detM m)).flatMap enI) :: .sl o2 4 ((rmR p m is).flatMap enMat) :: .sl o1 4 ((rmR p m is).flatMap enMat) :: .pt b5 [.i .i64 p.n, ws, wo] :: .sl vi 4 (is.flatMap enMat) :: .sl ws 2 (p.steps.flatMap enStep) :: .sl wo 1 (p.outs.flatMap enI) :: ssI f1 us1 (outE p p.outs) ∧ 0 ≤ i ∧ i + k = is.length ∧ lenA dd = some i.toNat ∧ dd.sc = true)
        is.length ⟨.ns, 0, exJ rfl, rfl, by omega, by omega, rfl, rfl⟩ ?_
      rintro k a _ ⟨dd, i, ⟨r, rfl⟩, rfl, h0, hki, ldd, sdd⟩ IH
      refine W ?_
      (first | refine LS_gt rfl ?_ ?_ | refine LS_gf rfl ?_ ?_ | refine LI_cond rfl ?_ ?_) <;> intro hc <;> have hc' := hc <;> try simp only [decide_eq_true_eq, decide_eq_false_iff_not, Bool.not_eq_true', Bool.not_eq_false', Bool.not_eq_true, Bool.not_eq_false, beq_iff_eq, bne_iff_ne, beq_eq_false_iff_ne, bne_eq_false_iff_eq, Int.not_lt, Int.not_le, ge_iff_le, gt_iff_lt, not_and, ne_eq, Decidable.not_not] at hc'
      all_goals (try (dsimp only [st, setL, AV.cells, List.set_cons_zero, List.set_cons_succ, List.drop_zero, List.drop_succ_cons, List.take_zero, List.take_succ_cons, Nat.zero_add, Nat.add_zero, Nat.reduceAdd, List.cons_append, List.nil_append, List.eraseIdx_cons_zero, List.eraseIdx_cons_succ]))
      all_goals (refine W ?_)
      · obtain ⟨q, hq, hqm, _⟩ := drop_at (l := is) h0 hc'
        obtain ⟨⟨x1, x2⟩, ⟨x3, x4⟩, ⟨x5, x6⟩, x7, x8⟩ := hx q hqm
        have k1 := mul_bd x1 (show q.a ≤ m by omega) x7 (show q.d ≤ m by omega) hm.2
        have k2 := mul_bd x3 (show q.b ≤ m by omega) x5 (show q.c ≤ m by omega) hm.2
        have k3 := tmod_abs (x := q.a * q.d - q.b * q.c) hm.1
        refine LS_ix (fun h' HL => HL.rdI 4 rfl enMat4 (by decide)) enMat4 hq h0 rfl rfl fun q5 o3 hrow1 => ?_
        try (dsimp only [st, setL, AV.cells, List.set_cons_zero, List.set_cons_succ, List.drop_zero, List.drop_succ_cons, List.take_zero, List.take_succ_cons, Nat.zero_add, Nat.add_zero, Nat.reduceAdd, List.cons_append, List.nil_append, List.eraseIdx_cons_zero, List.eraseIdx_cons_succ])
        refine W ?_
        refine LS_al rfl fun b7 => ?_
        try (dsimp only [st, setL, AV.cells, List.set_cons_zero, List.set_cons_succ, List.drop_zero, List.drop_succ_cons, List.take_zero, List.take_succ_cons, Nat.zero_add, Nat.add_zero, Nat.reduceAdd, List.cons_append, List.nil_append, List.eraseIdx_cons_zero, List.eraseIdx_cons_succ])
        refine W ?_
        refine LS_v (OpV_rem rfl rfl (by omega)) ?_
        try (dsimp only [st, setL, AV.cells, List.set_cons_zero, List.set_cons_succ, List.drop_zero, List.drop_succ_cons, List.take_zero, List.take_succ_cons, Nat.zero_add, Nat.add_zero, Nat.reduceAdd, List.cons_append, List.nil_append, List.eraseIdx_cons_zero, List.eraseIdx_cons_succ])
        refine W ?_
        refine LS_v (OpV_rem rfl rfl (by omega)) ?_
        try (dsimp only [st, setL, AV.cells, List.set_cons_zero, List.set_cons_succ, List.drop_zero, List.drop_succ_cons, List.take_zero, List.take_succ_cons, Nat.zero_add, Nat.add_zero, Nat.reduceAdd, List.cons_append, List.nil_append, List.eraseIdx_cons_zero, List.eraseIdx_cons_succ])
        refine W ?_
        refine LS_lt [detM m q] rfl rfl (by decide) rfl rfl rfl rfl enI1 rfl rfl fun l1 ll1 sl1 => ?_
        try (dsimp only [st, setL, AV.cells, List.set_cons_zero, List.set_cons_succ, List.drop_zero, List.drop_succ_cons, List.take_zero, List.take_succ_cons, Nat.zero_add, Nat.add_zero, Nat.reduceAdd, List.cons_append, List.nil_append, List.eraseIdx_cons_zero, List.eraseIdx_cons_succ])
        refine W ?_
        refine LS_ap 2 rfl (fun h' HL => HL.rdI 0 rfl enI1 (by decide)) enI1 (by decide) (by simp) (by simp; omega) (by simp; omega) rfl rfl rfl fun d2 ld2 sd2 => ?_
        try (dsimp only [st, setL, AV.cells, List.set_cons_zero, List.set_cons_succ, List.drop_zero, List.drop_succ_cons, List.take_zero, List.take_succ_cons, Nat.zero_add, Nat.add_zero, Nat.reduceAdd, List.cons_append, List.nil_append, List.eraseIdx_cons_zero, List.eraseIdx_cons_succ])
        refine W ?_
        refine LIL_drop 2 ?_
        refine IH (k - 1) _ _ (by omega) ⟨d2, i + 1, exJ rfl, by rw [toNat_succ h0, map_snoc hq]; rfl, by omega, by omega, by rw [ld2, toNat_succ h0]; simp; omega, sd2⟩
      · clear IH
        rw [show i.toNat = is.length by omega, List.take_length]
        refine W ?_
        refine LIL_ind (fun k a L => ∃ (i : Int), (∃ r : Nat → AV, a = [r 0, r 1, r 2, r 3, r 4, .p b5 0, .i .i64 m, vi, r 8, r 9, o2, r 11, f1, r 13, dd, r 15, r 16, r 17, r 18, r 19, r 20, r 21, r 22, r 23, r 24, r 25, r 26, r 27, r 28, r 29, r 30, r 31, r 32, r 33, r 34, r 35, r 36, r 37, r 38, r 39, r 40, r 41, r 42, r 43, r 44, r 45, r 46, r 47, r 48, r 49, r 50, r 51, r 52, r 53, r 54, r 55, r 56, r 57, r 58, r 59, r 60, r 61, r 62, r 63, r 64, r 65, r 66, r 67, r 68, r 69, r 70, r 71, r 72, r 73, r 74, r 75, r 76, r 77, r 78, r 79, r 80, r 81, r 82, r 83, r 84, r 85, r 86, r 87, r 88, r 89, r 90, r 91, o1, .i .i64 (rmR p m is).length, .i .i64 i, r 95, r 96, r 97, r 98, r 99, r 100, r 101, r 102, r 103, r 104, r 105, r 106, r 107, r 108, r 109, r 110, r 111, r 112, r 113, r 114, r 115, r 116, r 117, r 118, r 119, r 120, r 121, r 122, r 123, r 124, r 125, r 126, r 127, r 128, r 129, r 130, r 131, r 132, r 133, r 134, r 135, r 136, r 137, r 138, r 139, r 140, r 141, r 142, r 143, r 144, r 145, r 146, r 147, r 148, r 149, r 150, r 151, r 152, r 153, r 154, r 155, r 156, r 157, r 158, r 159, r 160, r 161, r 162]) ∧ L = .sl dd 1 ((is.map (detM m)).flatMap enI) :: .sl o2 4 ((rmR p m is).flatMap enMat) :: .sl o1 4 ((rmR p m is).flatMap enMat) :: .pt b5 [.i .i64 p.n, ws, wo] :: .sl vi 4 (is.flatMap enMat) :: .sl ws 2 (p.steps.flatMap enStep) :: .sl wo 1 (p.outs.flatMap enI) :: ssI f1 us1 (outE p p.outs) ∧ 0 ≤ i ∧ i + k = p.outs.length)
          p.outs.length ⟨0, exJ rfl, rfl, by omega, by omega⟩ ?_
        rintro k a _ ⟨i, ⟨r, rfl⟩, rfl, h0, hki⟩ IH
        refine W ?_
        (first | refine LS_gt rfl ?_ ?_ | refine LS_gf rfl ?_ ?_ | refine LI_cond rfl ?_ ?_) <;> intro hc <;> have hc' := hc <;> try simp only [decide_eq_true_eq, decide_eq_false_iff_not, Bool.not_eq_true', Bool.not_eq_false', Bool.not_eq_true, Bool.not_eq_false, beq_iff_eq, bne_iff_ne, beq_eq_false_iff_ne, bne_eq_false_iff_eq, Int.not_lt, Int.not_le, ge_iff_le, gt_iff_lt, not_and, ne_eq, Decidable.not_not] at hc'
        all_goals (try (dsimp only [st, setL, AV.cells, List.set_cons_zero, List.set_cons_succ, List.drop_zero, List.drop_succ_cons, List.take_zero, List.take_succ_cons, Nat.zero_add, Nat.add_zero, Nat.reduceAdd, List.cons_append, List.nil_append, List.eraseIdx_cons_zero, List.eraseIdx_cons_succ]))
        all_goals (refine W ?_)
        · obtain ⟨u, hu, _, _⟩ := drop_at (l := us1) h0 (by omega)
          obtain ⟨v, hv, hvm, _⟩ := drop_at (l := p.outs) h0 (by omega)
          have hvb := out_in hk hvm
          have hE := outE_get hv
          have hrl := exps_row af a1 (v := v.toNat) hvb.2
          obtain ⟨q, r1, rq, r2⟩ := run_det hk hm.1 hn hx v.toNat hvb.2
          have hpw := run_pows hk hm (xs := is.map (detM m)) (by simpa using hn) (by intro x hx; obtain ⟨y, _, rfl⟩ := List.mem_map.1 hx; exact detM_in hm.1 y) hvb.2 r2
          have r3 := r1
          rw [← rmR_at hO hv] at r3
          obtain ⟨⟨x1, x2⟩, ⟨x3, x4⟩, ⟨x5, x6⟩, x7, x8⟩ := rq
          have k1 := mul_bd x1 (show q.a ≤ m by omega) x7 (show q.d ≤ m by omega) hm.2
          have k2 := mul_bd x3 (show q.b ≤ m by omega) x5 (show q.c ≤ m by omega) hm.2
          have k3 := tmod_abs (x := q.a * q.d - q.b * q.c) hm.1
          have hF : ∀ (b10 : Nat) (h' : AH), Loq h h' (.pt b10 (enMat q) :: .sl dd 1 ((is.map (detM m)).flatMap enI) :: .sl o2 4 ((rmR p m is).flatMap enMat) :: .sl o1 4 ((rmR p m is).flatMap enMat) :: .pt b5 [.i .i64 p.n, ws, wo] :: .sl vi 4 (is.flatMap enMat) :: .sl ws 2 (p.steps.flatMap enStep) :: .sl wo 1 (p.outs.flatMap enI) :: ssI f1 us1 (outE p p.outs)) → RdSS h' f1 (outE p p.outs) us1 := fun b10 h' HL => HL.ss (by simp only [ssI, List.mem_cons, List.mem_append, true_or, or_true]) (fun x hx => by simp only [ssI, List.mem_cons, List.mem_append, hx, true_or, or_true]) hu1
          refine LS_ix (fun h' HL => HL.rdI 2 rfl enMat4 (by decide)) enMat4 r3 h0 rfl rfl fun q5 o3 hrow1 => ?_
          try (dsimp only [st, setL, AV.cells, List.set_cons_zero, List.set_cons_succ, List.drop_zero, List.drop_succ_cons, List.take_zero, List.take_succ_cons, Nat.zero_add, Nat.add_zero, Nat.reduceAdd, List.cons_append, List.nil_append, List.eraseIdx_cons_zero, List.eraseIdx_cons_succ])
          refine W ?_
          refine LS_al rfl fun b10 => ?_
          try (dsimp only [st, setL, AV.cells, List.set_cons_zero, List.set_cons_succ, List.drop_zero, List.drop_succ_cons, List.take_zero, List.take_succ_cons, Nat.zero_add, Nat.add_zero, Nat.reduceAdd, List.cons_append, List.nil_append, List.eraseIdx_cons_zero, List.eraseIdx_cons_succ])
          refine W ?_
          refine dz3_0 ?_
          refine WX ?_
          refine W ?_
          refine LX_ix (fun h' HL => HL.rdI 2 rfl enMat4 (by decide)) enMat4 r3 h0 rfl rfl noG fun q6 o4 hrow2 => ?_
          try (dsimp only [st, setL, AV.cells, List.set_cons_zero, List.set_cons_succ, List.drop_zero, List.drop_succ_cons, List.take_zero, List.take_succ_cons, Nat.zero_add, Nat.add_zero, Nat.reduceAdd, List.cons_append, List.nil_append, List.eraseIdx_cons_zero, List.eraseIdx_cons_succ])
          refine WX ?_
          refine W ?_
          refine LX_v noG (OpV_mne rfl rfl) ?_
          try (dsimp only [st, setL, AV.cells, List.set_cons_zero, List.set_cons_succ, List.drop_zero, List.drop_succ_cons, List.take_zero, List.take_succ_cons, Nat.zero_add, Nat.add_zero, Nat.reduceAdd, List.cons_append, List.nil_append, List.eraseIdx_cons_zero, List.eraseIdx_cons_succ])
          refine WX ?_
          refine W ?_
          first | (refine LS_gtnH rfl (by simp) ?_; intro hg; try (dsimp only [st, setL, AV.cells, List.set_cons_zero, List.set_cons_succ, List.drop_zero, List.drop_succ_cons, List.take_zero, List.take_succ_cons, Nat.zero_add, Nat.add_zero, Nat.reduceAdd, List.cons_append, List.nil_append, List.eraseIdx_cons_zero, List.eraseIdx_cons_succ])) | (refine LS_gfnH rfl (by simp) ?_; intro hg; try (dsimp only [st, setL, AV.cells, List.set_cons_zero, List.set_cons_succ, List.drop_zero, List.drop_succ_cons, List.take_zero, List.take_succ_cons, Nat.zero_add, Nat.add_zero, Nat.reduceAdd, List.cons_append, List.nil_append, List.eraseIdx_cons_zero, List.eraseIdx_cons_succ])) | (refine LI_cond_fH rfl (by simp) ?_; intro hg)
          refine W ?_
          refine LI_post (fun a L => (∃ r : Nat → AV, a = [r 0, r 1, r 2, r 3, r 4, .p b5 0, .i .i64 m, vi, r 8, r 9, o2, r 11, f1, r 13, dd, r 15, r 16, .i .i64 i, .p b10 0, r 19, r 20, r 21, r 22, r 23, r 24, r 25, r 26, r 27, r 28, r 29, r 30, r 31, r 32, r 33, r 34, r 35, r 36, r 37, r 38, r 39, r 40, r 41, r 42, r 43, r 44, r 45, r 46, r 47, r 48, r 49, r 50, r 51, r 52, r 53, r 54, r 55, r 56, r 57, r 58, r 59, r 60, r 61, r 62, r 63, r 64, r 65, r 66, r 67, r 68, r 69, r 70, r 71, r 72, r 73, r 74, r 75, r 76, r 77, r 78, r 79, r 80, r 81, r 82, r 83, r 84, r 85, r 86, r 87, r 88, r 89, r 90, r 91, o1, .i .i64 (rmR p m is).length, .i .i64 i, r 95, r 96, r 97, r 98, r 99, r 100, r 101, r 102, r 103, r 104, r 105, r 106, r 107, r 108, r 109, r 110, r 111, r 112, r 113, r 114, r 115, r 116, r 117, r 118, r 119, r 120, r 121, r 122, r 123, r 124, r 125, r 126, r 127, r 128, r 129, r 130, r 131, r 132, r 133, r 134, r 135, r 136, r 137, r 138, r 139, r 140, r 141, r 142, r 143, r 144, r 145, r 146, r 147, r 148, r 149, r 150, r 151, r 152, r 153, r 154, r 155, r 156, r 157, r 158, r 159, r 160, r 161, r 162]) ∧ L = .pt b10 (enMat q) :: .sl dd 1 ((is.map (detM m)).flatMap enI) :: .sl o2 4 ((rmR p m is).flatMap enMat) :: .sl o1 4 ((rmR p m is).flatMap enMat) :: .pt b5 [.i .i64 p.n, ws, wo] :: .sl vi 4 (is.flatMap enMat) :: .sl ws 2 (p.steps.flatMap enStep) :: .sl wo 1 (p.outs.flatMap enI) :: ssI f1 us1 (outE p p.outs)) ?_ ?_
          · (first | refine LS_gt rfl ?_ ?_ | refine LS_gf rfl ?_ ?_ | refine LI_cond rfl ?_ ?_) <;> intro hc <;> have hc' := hc <;> try simp only [decide_eq_true_eq, decide_eq_false_iff_not, Bool.not_eq_true', Bool.not_eq_false', Bool.not_eq_true, Bool.not_eq_false, beq_iff_eq, bne_iff_ne, beq_eq_false_iff_ne, bne_eq_false_iff_eq, Int.not_lt, Int.not_le, ge_iff_le, gt_iff_lt, not_and, ne_eq, Decidable.not_not] at hc'
            all_goals (try (dsimp only [st, setL, AV.cells, List.set_cons_zero, List.set_cons_succ, List.drop_zero, List.drop_succ_cons, List.take_zero, List.take_succ_cons, Nat.zero_add, Nat.add_zero, Nat.reduceAdd, List.cons_append, List.nil_append, List.eraseIdx_cons_zero, List.eraseIdx_cons_succ]))
            all_goals (refine W ?_)
            · have h1n : p.n = 1 := by first | exact hc' | simpa using hc
              obtain ⟨q0, rfl⟩ : ∃ q0, is = [q0] := by
                match is, hn with
                | [q0], _ => exact ⟨q0, rfl⟩
                | [], hn => simp at hn; omega
                | _ :: _ :: _, hn => simp at hn; omega
              have hmp := run_mpow hk h1n hm (hxm q0 (by simp)) hvb.2 r1
              refine dz3_1 ?_
              refine WX ?_
              refine W ?_
              repeat' (first | (refine LX_two ?_ ?_ <;> refine WX ?_) | (refine LX_ix (y := q0) (fun h' HL => HL.rdI 5 rfl enMat4 (by decide)) enMat4 rfl (by omega) rfl rfl noG fun q7 o5 hrow3 => ?_; try (dsimp only [st, setL, AV.cells, List.set_cons_zero, List.set_cons_succ, List.drop_zero, List.drop_succ_cons, List.take_zero, List.take_succ_cons, Nat.zero_add, Nat.add_zero, Nat.reduceAdd, List.cons_append, List.nil_append, List.eraseIdx_cons_zero, List.eraseIdx_cons_succ]); refine WX ?_) | (refine LX_ix (fun h' HL => (hF _ h' HL).outer) enV1 hu h0 rfl rfl noG fun q8 o6 hrow4 => ?_; try (dsimp only [st, setL, AV.cells, List.set_cons_zero, List.set_cons_succ, List.drop_zero, List.drop_succ_cons, List.take_zero, List.take_succ_cons, Nat.zero_add, Nat.add_zero, Nat.reduceAdd, List.cons_append, List.nil_append, List.eraseIdx_cons_zero, List.eraseIdx_cons_succ]); refine WX ?_) | (refine LX_ix (n := 0) (y := colE p 0 v.toNat) (fun h' HL => (hF _ h' HL).row _ _ _ hu hE) enI1 (row_get2 hk hvb.2 (i := 0) (by omega)) (by omega) rfl rfl noG fun q9 o7 hrow5 => ?_; try (dsimp only [st, setL, AV.cells, List.set_cons_zero, List.set_cons_succ, List.drop_zero, List.drop_succ_cons, List.take_zero, List.take_succ_cons, Nat.zero_add, Nat.add_zero, Nat.reduceAdd, List.cons_append, List.nil_append, List.eraseIdx_cons_zero, List.eraseIdx_cons_succ]); refine WX ?_) | (refine LX_c0 (fun h' HL wf => by have H := implMPow_ac q0 (colE p 0 v.toNat) m h'.frz; rw [hmp] at H; exact H) rfl rfl noG ?_; try (dsimp only [st, setL, AV.cells, List.set_cons_zero, List.set_cons_succ, List.drop_zero, List.drop_succ_cons, List.take_zero, List.take_succ_cons, Nat.zero_add, Nat.add_zero, Nat.reduceAdd, List.cons_append, List.nil_append, List.eraseIdx_cons_zero, List.eraseIdx_cons_succ]); refine WX ?_) | (refine LX_al (by rfl) noG fun b12 => ?_; try (dsimp only [st, setL, AV.cells, List.set_cons_zero, List.set_cons_succ, List.drop_zero, List.drop_succ_cons, List.take_zero, List.take_succ_cons, Nat.zero_add, Nat.add_zero, Nat.reduceAdd, List.cons_append, List.nil_append, List.eraseIdx_cons_zero, List.eraseIdx_cons_succ]); refine WX ?_))
              all_goals
                refine W ?_
                refine LS_rm 0 ?_
                try (dsimp only [st, setL, AV.cells, List.set_cons_zero, List.set_cons_succ, List.drop_zero, List.drop_succ_cons, List.take_zero, List.take_succ_cons, Nat.zero_add, Nat.add_zero, Nat.reduceAdd, List.cons_append, List.nil_append, List.eraseIdx_cons_zero, List.eraseIdx_cons_succ])
                refine LS_v (OpV_mne rfl rfl) ?_
                try (dsimp only [st, setL, AV.cells, List.set_cons_zero, List.set_cons_succ, List.drop_zero, List.drop_succ_cons, List.take_zero, List.take_succ_cons, Nat.zero_add, Nat.add_zero, Nat.reduceAdd, List.cons_append, List.nil_append, List.eraseIdx_cons_zero, List.eraseIdx_cons_succ])
                refine W ?_
                exact ⟨rfl, exJ rfl, rfl⟩
            · exact ⟨rfl, exJ rfl, rfl⟩
          · rintro _ _ ⟨⟨r, rfl⟩, rfl⟩
            refine LThen_n ?_
            refine W ?_
            refine LS_ix (fun h' HL => (hF _ h' HL).outer) enV1 hu h0 rfl rfl fun q6 o4 hrow2 => ?_
            try (dsimp only [st, setL, AV.cells, List.set_cons_zero, List.set_cons_succ, List.drop_zero, List.drop_succ_cons, List.take_zero, List.take_succ_cons, Nat.zero_add, Nat.add_zero, Nat.reduceAdd, List.cons_append, List.nil_append, List.eraseIdx_cons_zero, List.eraseIdx_cons_succ])
            refine W ?_
            refine LS_c0 (fun h' HL wf => by have H := implPowers_ac ((expsE p).getD v.toNat []) (is.map (detM m)) u dd m h' ((hF _ h' HL).row _ _ _ hu hE) (HL.rdI 1 rfl enI1 (by decide)) (by omega) (by simp; omega); rw [hpw] at H; exact H) rfl rfl ?_
            try (dsimp only [st, setL, AV.cells, List.set_cons_zero, List.set_cons_succ, List.drop_zero, List.drop_succ_cons, List.take_zero, List.take_succ_cons, Nat.zero_add, Nat.add_zero, Nat.reduceAdd, List.cons_append, List.nil_append, List.eraseIdx_cons_zero, List.eraseIdx_cons_succ])
            refine W ?_
            refine LS_v (OpV_rem rfl rfl (by omega)) ?_
            try (dsimp only [st, setL, AV.cells, List.set_cons_zero, List.set_cons_succ, List.drop_zero, List.drop_succ_cons, List.take_zero, List.take_succ_cons, Nat.zero_add, Nat.add_zero, Nat.reduceAdd, List.cons_append, List.nil_append, List.eraseIdx_cons_zero, List.eraseIdx_cons_succ])
            refine W ?_
            refine LS_v (OpV_rem rfl rfl (by omega)) ?_
            try (dsimp only [st, setL, AV.cells, List.set_cons_zero, List.set_cons_succ, List.drop_zero, List.drop_succ_cons, List.take_zero, List.take_succ_cons, Nat.zero_add, Nat.add_zero, Nat.reduceAdd, List.cons_append, List.nil_append, List.eraseIdx_cons_zero, List.eraseIdx_cons_succ])
            refine W ?_
            first | (refine LS_gtnH rfl (by simp [detM]) ?_; intro hg; try (dsimp only [st, setL, AV.cells, List.set_cons_zero, List.set_cons_succ, List.drop_zero, List.drop_succ_cons, List.take_zero, List.take_succ_cons, Nat.zero_add, Nat.add_zero, Nat.reduceAdd, List.cons_append, List.nil_append, List.eraseIdx_cons_zero, List.eraseIdx_cons_succ])) | (refine LS_gfnH rfl (by simp [detM]) ?_; intro hg; try (dsimp only [st, setL, AV.cells, List.set_cons_zero, List.set_cons_succ, List.drop_zero, List.drop_succ_cons, List.take_zero, List.take_succ_cons, Nat.zero_add, Nat.add_zero, Nat.reduceAdd, List.cons_append, List.nil_append, List.eraseIdx_cons_zero, List.eraseIdx_cons_succ])) | (refine LI_cond_fH rfl (by simp [detM]) ?_; intro hg)
            refine W ?_
            refine LIL_drop 1 ?_
            refine IH (k - 1) _ _ (by omega) ⟨i + 1, exJ rfl, rfl, by omega, by omega⟩
        · refine RET fun h' HL => ?_
          try dsimp only [oneA]
end Go.Proofs.Ytinnajihcpldlaa
