/- The walk of the law FnExactRunPermutations, part 2: what each function that it reaches computes. -/
import Derived.Test.YtcopnjopglfllaaXFnExactRunPermutationsa
namespace Go.Proofs.Ytcopnjopglfllaa
open Go.AL
set_option linter.unusedVariables false
set_option linter.unusedSimpArgs false
set_option maxRecDepth 100000
set_option maxHeartbeats 1000000
attribute [local irreducible] AS AI AIL OpR AC CW AWP ALoop LS LI LIL LThen LLoop LBlk LRet Lh AX OpV OpF

theorem exponents_ac (p : PlanM) (b : Nat) (vs vo : AV) (h : AH) (hp : PlP h b p vs vo) (hn0 : 1 ≤ p.n) (hn1 : p.n ≤ 6) (hl : p.steps.length ≤ 40) (hf : formedS p.n 0 p.steps = true) :
    AC Try.prog 81 [.p b 0] h (fun r h' => ∃ M, (∃ us, us.length = (expsE p).length ∧ lenA r = some us.length ∧ r.sc = true ∧ M = ssI r us (expsE p)) ∧ Loq h h' M) := by
  have c0 := hp.c0
  have c1 := hp.c1
  have hs := hp.steps
  refine e81 _ fun wf => ?_
  unfold c81
  refine LI_start wf ?_
  refine W ?_
  refine LS_lt ([] : List AV) rfl rfl (by decide) rfl rfl rfl rfl enV1 rfl rfl fun lit0 hlit0 slit0 => ?_
  try (dsimp only [st, setL, AV.cells, List.set_cons_zero, List.set_cons_succ, List.drop_zero, List.drop_succ_cons, List.take_zero, List.take_succ_cons, Nat.zero_add, Nat.add_zero, Nat.reduceAdd, List.cons_append, List.nil_append, List.eraseIdx_cons_zero, List.eraseIdx_cons_succ])
  refine W ?_
  refine LIL_ind (fun n a L => ∃ (out : AV) (i : Int) (us : List AV), (∃ r : Nat → AV, a = [.p b 0, r 1, r 2, out, r 4, r 5, r 6, r 7, r 8, r 9, r 10, r 11, r 12, r 13, r 14, .i .i64 p.n, .i .i64 i, r 17, r 18, r 19, r 20, r 21, r 22, r 23, r 24, r 25, r 26, r 27, r 28, r 29, r 30, r 31, r 32, r 33, r 34, r 35, r 36, r 37, r 38, r 39, r 40, r 41, r 42, r 43, r 44, r 45, r 46, r 47, r 48, r 49, r 50, r 51, r 52, r 53, r 54, r 55, r 56, r 57, r 58, r 59, r 60, r 61, r 62, r 63, r 64, r 65, r 66, r 67, r 68, r 69, r 70, r 71, r 72, r 73]) ∧ L = .sl out 1 (us.flatMap enV) :: (rowsI us ((unitsE p.n.toNat).take i.toNat) ++ []) ∧ us.length = i.toNat ∧ 0 ≤ i ∧ i + n = p.n)
    p.n.toNat ⟨lit0, 0, [], exJ rfl, rfl, rfl, by omega, by omega⟩ ?_
  rintro n a L ⟨out, i, us, ⟨r, rfl⟩, rfl, hus, h0, hn⟩ IH
  have hul : us.length = ((unitsE p.n.toNat).take i.toNat).length := by rw [hus]; simp [unitsE]; omega
  refine W ?_
  (first | refine LS_gt rfl ?_ ?_ | refine LS_gf rfl ?_ ?_ | refine LI_cond rfl ?_ ?_) <;> intro hc <;> have hc' := hc <;> try simp only [decide_eq_true_eq, decide_eq_false_iff_not, Bool.not_eq_true', Bool.not_eq_false', Bool.not_eq_true, Bool.not_eq_false, beq_iff_eq, bne_iff_ne, beq_eq_false_iff_ne, bne_eq_false_iff_eq, Int.not_lt, Int.not_le, ge_iff_le, gt_iff_lt, not_and, ne_eq, Decidable.not_not] at hc'
  all_goals (try (dsimp only [st, setL, AV.cells, List.set_cons_zero, List.set_cons_succ, List.drop_zero, List.drop_succ_cons, List.take_zero, List.take_succ_cons, Nat.zero_add, Nat.add_zero, Nat.reduceAdd, List.cons_append, List.nil_append, List.eraseIdx_cons_zero, List.eraseIdx_cons_succ]))
  all_goals (refine W ?_)
  · refine LS_mk 0 rfl rfl rfl rfl rfl (by omega) (by omega) (by omega) enI1 rfl fun b2 => ?_
    try (dsimp only [st, setL, AV.cells, List.set_cons_zero, List.set_cons_succ, List.drop_zero, List.drop_succ_cons, List.take_zero, List.take_succ_cons, Nat.zero_add, Nat.add_zero, Nat.reduceAdd, List.cons_append, List.nil_append, List.eraseIdx_cons_zero, List.eraseIdx_cons_succ])
    refine W ?_
    refine LS_is h0 (by omega) rfl rfl ?_
    try (dsimp only [st, setL, AV.cells, List.set_cons_zero, List.set_cons_succ, List.drop_zero, List.drop_succ_cons, List.take_zero, List.take_succ_cons, Nat.zero_add, Nat.add_zero, Nat.reduceAdd, List.cons_append, List.nil_append, List.eraseIdx_cons_zero, List.eraseIdx_cons_succ])
    refine W ?_
    refine LS_ss 1 0 i.toNat rfl (by simp; omega) (by omega) rfl enI1 (by decide) rfl rfl rfl ?_
    try (dsimp only [st, setL, AV.cells, List.set_cons_zero, List.set_cons_succ, List.drop_zero, List.drop_succ_cons, List.take_zero, List.take_succ_cons, Nat.zero_add, Nat.add_zero, Nat.reduceAdd, List.cons_append, List.nil_append, List.eraseIdx_cons_zero, List.eraseIdx_cons_succ])
    refine W ?_
    rw [set_unit]
    refine LS_ltV rfl rfl rfl rfl fun lit hlit slit => ?_
    try (dsimp only [st, setL, AV.cells, List.set_cons_zero, List.set_cons_succ, List.drop_zero, List.drop_succ_cons, List.take_zero, List.take_succ_cons, Nat.zero_add, Nat.add_zero, Nat.reduceAdd, List.cons_append, List.nil_append, List.eraseIdx_cons_zero, List.eraseIdx_cons_succ])
    refine W ?_
    refine LS_ap 2 rfl (fun h' HL => HL.rdI 0 rfl enV1 (by decide)) enV1 (by decide) (by simp) (by simp; omega) (by simp; omega) rfl rfl rfl fun w hw sw => ?_
    try (dsimp only [st, setL, AV.cells, List.set_cons_zero, List.set_cons_succ, List.drop_zero, List.drop_succ_cons, List.take_zero, List.take_succ_cons, Nat.zero_add, Nat.add_zero, Nat.reduceAdd, List.cons_append, List.nil_append, List.eraseIdx_cons_zero, List.eraseIdx_cons_succ])
    refine W ?_
    refine LIL_drop 1 (LIL_push [_] hul ?_)
    refine IH (n - 1) _ _ (by omega) ⟨w, i + 1, us ++ [AV.sl b2 0 p.n.toNat true], exJ rfl, by rw [toNat_succ h0, unit_next (by omega)]; rfl, by rw [toNat_succ h0]; simp [hus], by omega, by omega⟩
  · have hi : i.toNat = p.n.toNat := by omega
    have e0 : (unitsE p.n.toNat).take i.toNat = expsT p 0 := by rw [hi, List.take_of_length_le (by simp [unitsE])]; rfl
    rw [e0]
    clear IH
    rw [e0] at hul
    refine LIL_ind (fun n a L => ∃ (out : AV) (i : Int) (us : List AV), (∃ r : Nat → AV, a = [r 0, r 1, r 2, out, r 4, r 5, r 6, r 7, r 8, r 9, r 10, r 11, r 12, r 13, r 14, r 15, r 16, r 17, r 18, r 19, r 20, r 21, r 22, r 23, r 24, r 25, r 26, r 27, r 28, r 29, r 30, r 31, r 32, r 33, r 34, vs, .i .i64 p.steps.length, .i .i64 i, r 38, r 39, r 40, r 41, r 42, r 43, r 44, r 45, r 46, r 47, r 48, r 49, r 50, r 51, r 52, r 53, r 54, r 55, r 56, r 57, r 58, r 59, r 60, r 61, r 62, r 63, r 64, r 65, r 66, r 67, r 68, r 69, r 70, r 71, r 72, r 73]) ∧ L = .sl out 1 (us.flatMap enV) :: (rowsI us (expsT p i.toNat) ++ []) ∧ us.length = (expsT p i.toNat).length ∧ 0 ≤ i ∧ i + n = p.steps.length)
      p.steps.length ⟨out, 0, us, exJ rfl, rfl, hul, by omega, by omega⟩ ?_
    rintro n a L ⟨out, i, us, ⟨r, rfl⟩, rfl, hul, h0, hn⟩ IH
    obtain ⟨hel, hro⟩ := expsT_ok hf hn0 i.toNat (by omega)
    refine W ?_
    (first | refine LS_gt rfl ?_ ?_ | refine LS_gf rfl ?_ ?_ | refine LI_cond rfl ?_ ?_) <;> intro hc <;> have hc' := hc <;> try simp only [decide_eq_true_eq, decide_eq_false_iff_not, Bool.not_eq_true', Bool.not_eq_false', Bool.not_eq_true, Bool.not_eq_false, beq_iff_eq, bne_iff_ne, beq_eq_false_iff_ne, bne_eq_false_iff_eq, Int.not_lt, Int.not_le, ge_iff_le, gt_iff_lt, not_and, ne_eq, Decidable.not_not] at hc'
    all_goals (try (dsimp only [st, setL, AV.cells, List.set_cons_zero, List.set_cons_succ, List.drop_zero, List.drop_succ_cons, List.take_zero, List.take_succ_cons, Nat.zero_add, Nat.add_zero, Nat.reduceAdd, List.cons_append, List.nil_append, List.eraseIdx_cons_zero, List.eraseIdx_cons_succ]))
    all_goals (refine W ?_)
    · obtain ⟨s, hs', _, _⟩ := drop_at h0 hc'
      have hb := formedS_get hf hs'
      obtain ⟨u, hu⟩ := at_ (l := us) (i := s.1.toNat) (by omega)
      obtain ⟨u', hu'⟩ := at_ (l := us) (i := s.2.toNat) (by omega)
      have hx := getD_get (ll := expsT p i.toNat) (i := s.1.toNat) (by omega)
      have hy := getD_get (ll := expsT p i.toNat) (i := s.2.toNat) (by omega)
      have rx := hro _ (List.mem_of_getElem? hx)
      have ry := hro _ (List.mem_of_getElem? hy)
      have hst := expsT_succ hs'
      generalize hX : (expsT p i.toNat).getD s.1.toNat [] = X at hx rx
      generalize hY : (expsT p i.toNat).getD s.2.toNat [] = Y at hy ry
      refine LS_ix (fun h' HL => hs.le HL.le) enStep2 hs' h0 rfl rfl fun q o hrow => ?_
      try (dsimp only [st, setL, AV.cells, List.set_cons_zero, List.set_cons_succ, List.drop_zero, List.drop_succ_cons, List.take_zero, List.take_succ_cons, Nat.zero_add, Nat.add_zero, Nat.reduceAdd, List.cons_append, List.nil_append, List.eraseIdx_cons_zero, List.eraseIdx_cons_succ])
      refine W ?_
      refine LS_al rfl fun b5 => ?_
      try (dsimp only [st, setL, AV.cells, List.set_cons_zero, List.set_cons_succ, List.drop_zero, List.drop_succ_cons, List.take_zero, List.take_succ_cons, Nat.zero_add, Nat.add_zero, Nat.reduceAdd, List.cons_append, List.nil_append, List.eraseIdx_cons_zero, List.eraseIdx_cons_succ])
      refine W ?_
      refine LS_lt ([] : List Int) rfl rfl (by decide) rfl rfl rfl rfl enI1 rfl rfl fun lit1 hlit1 slit1 => ?_
      try (dsimp only [st, setL, AV.cells, List.set_cons_zero, List.set_cons_succ, List.drop_zero, List.drop_succ_cons, List.take_zero, List.take_succ_cons, Nat.zero_add, Nat.add_zero, Nat.reduceAdd, List.cons_append, List.nil_append, List.eraseIdx_cons_zero, List.eraseIdx_cons_succ])
      refine W ?_
      refine LS_ix (fun h' HL => HL.rdI 2 rfl enV1 (by decide)) enV1 hu (by omega) rfl rfl fun q1 o1 hrow1 => ?_
      try (dsimp only [st, setL, AV.cells, List.set_cons_zero, List.set_cons_succ, List.drop_zero, List.drop_succ_cons, List.take_zero, List.take_succ_cons, Nat.zero_add, Nat.add_zero, Nat.reduceAdd, List.cons_append, List.nil_append, List.eraseIdx_cons_zero, List.eraseIdx_cons_succ])
      refine W ?_
      refine LS_have (fun h' HL => ((HL.rdM (List.mem_cons_of_mem _ (List.mem_cons_of_mem _ (List.mem_cons_of_mem _ (rowsI_in hu hx)))) enI1 (by decide)).len)) fun hlu => ?_
      refine W ?_
      refine LIL_ind (fun n a L => ∃ (row : AV) (k : Int), (∃ r : Nat → AV, a = [r 0, r 1, r 2, out, r 4, r 5, r 6, .p b5 0, row, r 9, r 10, r 11, r 12, r 13, r 14, r 15, r 16, r 17, r 18, r 19, r 20, r 21, r 22, r 23, r 24, r 25, r 26, r 27, r 28, r 29, r 30, r 31, r 32, r 33, r 34, vs, .i .i64 p.steps.length, .i .i64 i, r 38, r 39, r 40, r 41, r 42, r 43, r 44, r 45, u, .i .i64 X.length, .i .i64 k, r 49, r 50, r 51, r 52, r 53, r 54, r 55, r 56, r 57, r 58, r 59, r 60, r 61, r 62, r 63, r 64, r 65, r 66, r 67, r 68, r 69, r 70, r 71, r 72, r 73]) ∧ L = .sl row 1 ((sumR (X.take k.toNat) (Y.take k.toNat)).flatMap enI) :: .pt b5 (enStep s) :: .sl out 1 (us.flatMap enV) :: (rowsI us (expsT p i.toNat) ++ []) ∧ 0 ≤ k ∧ k + n = X.length)
        X.length ⟨lit1, 0, exJ rfl, rfl, by omega, by omega⟩ ?_
      rintro m a L ⟨row, k, ⟨r, rfl⟩, rfl, hk0, hkm⟩ IH2
      refine W ?_
      (first | refine LS_gt rfl ?_ ?_ | refine LS_gf rfl ?_ ?_ | refine LI_cond rfl ?_ ?_) <;> intro hc <;> have hc' := hc <;> try simp only [decide_eq_true_eq, decide_eq_false_iff_not, Bool.not_eq_true', Bool.not_eq_false', Bool.not_eq_true, Bool.not_eq_false, beq_iff_eq, bne_iff_ne, beq_eq_false_iff_ne, bne_eq_false_iff_eq, Int.not_lt, Int.not_le, ge_iff_le, gt_iff_lt, not_and, ne_eq, Decidable.not_not] at hc'
      all_goals (try (dsimp only [st, setL, AV.cells, List.set_cons_zero, List.set_cons_succ, List.drop_zero, List.drop_succ_cons, List.take_zero, List.take_succ_cons, Nat.zero_add, Nat.add_zero, Nat.reduceAdd, List.cons_append, List.nil_append, List.eraseIdx_cons_zero, List.eraseIdx_cons_succ]))
      all_goals (refine W ?_)
      · obtain ⟨xa, hxa, hxm, _⟩ := drop_at (l := X) hk0 hc'
        obtain ⟨ya, hya, hym, _⟩ := drop_at (l := Y) hk0 (by omega)
        have b1 := rx.2 xa hxm
        have b2 := ry.2 ya hym
        have hlen : (sumR (X.take k.toNat) (Y.take k.toNat)).length = k.toNat := by rw [sumR_len (by simp; omega)]; simp; omega
        refine LS_ix (fun h' HL => HL.rdM (List.mem_cons_of_mem _ (List.mem_cons_of_mem _ (List.mem_cons_of_mem _ (rowsI_in hu hx)))) enI1 (by decide)) enI1 hxa hk0 rfl rfl fun q2 o2 hrow2 => ?_
        try (dsimp only [st, setL, AV.cells, List.set_cons_zero, List.set_cons_succ, List.drop_zero, List.drop_succ_cons, List.take_zero, List.take_succ_cons, Nat.zero_add, Nat.add_zero, Nat.reduceAdd, List.cons_append, List.nil_append, List.eraseIdx_cons_zero, List.eraseIdx_cons_succ])
        refine W ?_
        refine LS_ix (fun h' HL => HL.rdI 2 rfl enV1 (by decide)) enV1 hu' (by omega) rfl rfl fun q3 o3 hrow3 => ?_
        try (dsimp only [st, setL, AV.cells, List.set_cons_zero, List.set_cons_succ, List.drop_zero, List.drop_succ_cons, List.take_zero, List.take_succ_cons, Nat.zero_add, Nat.add_zero, Nat.reduceAdd, List.cons_append, List.nil_append, List.eraseIdx_cons_zero, List.eraseIdx_cons_succ])
        refine W ?_
        refine LS_ix (fun h' HL => HL.rdM (List.mem_cons_of_mem _ (List.mem_cons_of_mem _ (List.mem_cons_of_mem _ (rowsI_in hu' hy)))) enI1 (by decide)) enI1 hya hk0 rfl rfl fun q4 o4 hrow4 => ?_
        try (dsimp only [st, setL, AV.cells, List.set_cons_zero, List.set_cons_succ, List.drop_zero, List.drop_succ_cons, List.take_zero, List.take_succ_cons, Nat.zero_add, Nat.add_zero, Nat.reduceAdd, List.cons_append, List.nil_append, List.eraseIdx_cons_zero, List.eraseIdx_cons_succ])
        refine W ?_
        refine LS_lt [if (1000001 : Int) < xa + ya then 1000001 else xa + ya] rfl rfl (by decide) rfl rfl rfl rfl enI1 rfl rfl fun lit2 hlit2 slit2 => ?_
        try (dsimp only [st, setL, AV.cells, List.set_cons_zero, List.set_cons_succ, List.drop_zero, List.drop_succ_cons, List.take_zero, List.take_succ_cons, Nat.zero_add, Nat.add_zero, Nat.reduceAdd, List.cons_append, List.nil_append, List.eraseIdx_cons_zero, List.eraseIdx_cons_succ])
        refine W ?_
        refine LS_ap 1 rfl (fun h' HL => HL.rdI 0 rfl enI1 (by decide)) enI1 (by decide) (by simp) (by simp; omega) (by simp; omega) rfl rfl rfl fun w hw sw => ?_
        try (dsimp only [st, setL, AV.cells, List.set_cons_zero, List.set_cons_succ, List.drop_zero, List.drop_succ_cons, List.take_zero, List.take_succ_cons, Nat.zero_add, Nat.add_zero, Nat.reduceAdd, List.cons_append, List.nil_append, List.eraseIdx_cons_zero, List.eraseIdx_cons_succ])
        refine W ?_
        refine LIL_drop 1 ?_
        refine IH2 (m - 1) _ _ (by omega) ⟨w, k + 1, exJ rfl, ?_, by omega, by omega⟩
        rw [toNat_succ hk0, sumR_take hxa hya, show (if xa + ya < 1000001 then xa + ya else 1000001) = if (1000001 : Int) < xa + ya then 1000001 else xa + ya by split <;> split <;> omega]
        rfl
      · have e : k.toNat = X.length := by omega
        have ey : (Y.take X.length) = Y := List.take_of_length_le (by omega)
        rw [e, List.take_length, ey]
        refine LS_have (fun h' HL => rd_sc (HL.rdI 0 rfl enI1 (by decide))) fun srow => ?_
        refine LS_ltV rfl rfl srow rfl fun lit3 hlit3 slit3 => ?_
        try (dsimp only [st, setL, AV.cells, List.set_cons_zero, List.set_cons_succ, List.drop_zero, List.drop_succ_cons, List.take_zero, List.take_succ_cons, Nat.zero_add, Nat.add_zero, Nat.reduceAdd, List.cons_append, List.nil_append, List.eraseIdx_cons_zero, List.eraseIdx_cons_succ])
        refine W ?_
        refine LS_ap 3 rfl (fun h' HL => HL.rdI 0 rfl enV1 (by decide)) enV1 (by decide) (by simp) (by simp; omega) (by simp; omega) rfl rfl rfl fun w hw sw => ?_
        try (dsimp only [st, setL, AV.cells, List.set_cons_zero, List.set_cons_succ, List.drop_zero, List.drop_succ_cons, List.take_zero, List.take_succ_cons, Nat.zero_add, Nat.add_zero, Nat.reduceAdd, List.cons_append, List.nil_append, List.eraseIdx_cons_zero, List.eraseIdx_cons_succ])
        refine W ?_
        refine LIL_drop 1 (LIL_rot 1 rfl (LIL_drop 1 (LIL_push [_] hul ?_)))
        refine IH (n - 1) _ _ (by omega) ⟨w, i + 1, us ++ [row], exJ rfl, by rw [toNat_succ h0, hst, stepE, hX, hY]; rfl, by rw [toNat_succ h0, hst]; simp [stepE, hul], by omega, by omega⟩
    · have e : i.toNat = p.steps.length := by omega
      rw [e, expsT_end] at hul
      rw [e, expsT_end]
      refine RET fun h' HL => ?_
      try dsimp only [oneA]
      have hO := HL.rdI 0 rfl enV1 (by decide)
      exact ⟨_, ⟨us, hul, hO.len, rd_sc hO, rfl⟩, HL⟩

theorem formed_1_ac (x : Int) (p : PlanM) (b q : Nat) (vs vo : AV) (h : AH) (hq : h.cell q 0 = some (.p b 0)) (hp : PlP h b p vs vo) (hb0 : -10 ≤ p.n) (hb1 : p.n ≤ 1048576) (hl : p.steps.length ≤ 1048576) :
    AC Try.prog 94 [.i .i64 x, .p q 0] h (fun r h' => r = .b (!decide (0 ≤ x ∧ x ≤ p.n + p.steps.length - 1)) ∧ h.le h') := by
  refine e94 _ _ fun wf => ?_
  unfold c94
  refine LI_start wf ?_
  refine W ?_
  refine LS_c0 (fun h' HL wf => many_ac p b vs vo h' (hp.le HL.le) hb0 hb1 hl) rfl rfl ?_
  try (dsimp only [st, setL, AV.cells, List.set_cons_zero, List.set_cons_succ, List.drop_zero, List.drop_succ_cons, List.take_zero, List.take_succ_cons, Nat.zero_add, Nat.add_zero, Nat.reduceAdd, List.cons_append, List.nil_append, List.eraseIdx_cons_zero, List.eraseIdx_cons_succ])
  refine W ?_
  refine LS_c0' (fun h' HL wf => in_ac x 0 _ h') rfl rfl ?_
  try (dsimp only [st, setL, AV.cells, List.set_cons_zero, List.set_cons_succ, List.drop_zero, List.drop_succ_cons, List.take_zero, List.take_succ_cons, Nat.zero_add, Nat.add_zero, Nat.reduceAdd, List.cons_append, List.nil_append, List.eraseIdx_cons_zero, List.eraseIdx_cons_succ])
  refine W ?_
  refine RET fun h' HL => ?_
  try dsimp only [oneA]
  exact ⟨rfl, HL.le⟩

theorem formed_ac (p : PlanM) (b : Nat) (vs vo : AV) (h : AH) (hp : PlP h b p vs vo) (hw : inI p.n) (hl : p.steps.length ≤ 1048576) (hl2 : p.outs.length ≤ 1048576) (hw2 : ∀ s ∈ p.steps, inI s.1 ∧ inI s.2) :
    AC Try.prog 80 [.p b 0] h (fun r h' => r = .b (planForm p && outsOk p) ∧ h.le h') := by
  have c0 := hp.c0
  have c1 := hp.c1
  have c2 := hp.c2
  have hs := hp.steps
  have ho := hp.outs
  refine e80 _ fun wf => ?_
  unfold c80
  refine LI_start wf ?_
  refine W ?_
  refine LS_bx1 rfl rfl fun b1 => ?_
  try (dsimp only [st, setL, AV.cells, List.set_cons_zero, List.set_cons_succ, List.drop_zero, List.drop_succ_cons, List.take_zero, List.take_succ_cons, Nat.zero_add, Nat.add_zero, Nat.reduceAdd, List.cons_append, List.nil_append, List.eraseIdx_cons_zero, List.eraseIdx_cons_succ])
  refine W ?_
  refine LS_c0' (fun h' HL wf => in_ac p.n 1 6 h') rfl rfl ?_
  try (dsimp only [st, setL, AV.cells, List.set_cons_zero, List.set_cons_succ, List.drop_zero, List.drop_succ_cons, List.take_zero, List.take_succ_cons, Nat.zero_add, Nat.add_zero, Nat.reduceAdd, List.cons_append, List.nil_append, List.eraseIdx_cons_zero, List.eraseIdx_cons_succ])
  refine W ?_
  (first | refine LS_gt rfl ?_ ?_ | refine LS_gf rfl ?_ ?_ | refine LI_cond rfl ?_ ?_) <;> intro hc <;> have hc' := hc <;> try simp only [decide_eq_true_eq, decide_eq_false_iff_not, Bool.not_eq_true', Bool.not_eq_false', Bool.not_eq_true, Bool.not_eq_false, beq_iff_eq, bne_iff_ne, beq_eq_false_iff_ne, bne_eq_false_iff_eq, Int.not_lt, Int.not_le, ge_iff_le, gt_iff_lt, not_and, ne_eq, Decidable.not_not] at hc'
  all_goals (try (dsimp only [st, setL, AV.cells, List.set_cons_zero, List.set_cons_succ, List.drop_zero, List.drop_succ_cons, List.take_zero, List.take_succ_cons, Nat.zero_add, Nat.add_zero, Nat.reduceAdd, List.cons_append, List.nil_append, List.eraseIdx_cons_zero, List.eraseIdx_cons_succ]))
  all_goals (refine W ?_)
  · have hn := of_decide_eq_true (nf hc)
    (first | refine LS_gt rfl ?_ ?_ | refine LS_gf rfl ?_ ?_ | refine LI_cond rfl ?_ ?_) <;> intro hc <;> have hc' := hc <;> try simp only [decide_eq_true_eq, decide_eq_false_iff_not, Bool.not_eq_true', Bool.not_eq_false', Bool.not_eq_true, Bool.not_eq_false, beq_iff_eq, bne_iff_ne, beq_eq_false_iff_ne, bne_eq_false_iff_eq, Int.not_lt, Int.not_le, ge_iff_le, gt_iff_lt, not_and, ne_eq, Decidable.not_not] at hc'
    all_goals (try (dsimp only [st, setL, AV.cells, List.set_cons_zero, List.set_cons_succ, List.drop_zero, List.drop_succ_cons, List.take_zero, List.take_succ_cons, Nat.zero_add, Nat.add_zero, Nat.reduceAdd, List.cons_append, List.nil_append, List.eraseIdx_cons_zero, List.eraseIdx_cons_succ]))
    all_goals (refine W ?_)
    · have hl40 := hc'
      (first | refine LS_gt rfl ?_ ?_ | refine LS_gf rfl ?_ ?_ | refine LI_cond rfl ?_ ?_) <;> intro hc <;> have hc' := hc <;> try simp only [decide_eq_true_eq, decide_eq_false_iff_not, Bool.not_eq_true', Bool.not_eq_false', Bool.not_eq_true, Bool.not_eq_false, beq_iff_eq, bne_iff_ne, beq_eq_false_iff_ne, bne_eq_false_iff_eq, Int.not_lt, Int.not_le, ge_iff_le, gt_iff_lt, not_and, ne_eq, Decidable.not_not] at hc'
      all_goals (try (dsimp only [st, setL, AV.cells, List.set_cons_zero, List.set_cons_succ, List.drop_zero, List.drop_succ_cons, List.take_zero, List.take_succ_cons, Nat.zero_add, Nat.add_zero, Nat.reduceAdd, List.cons_append, List.nil_append, List.eraseIdx_cons_zero, List.eraseIdx_cons_succ]))
      all_goals (refine W ?_)
      · rw [show planForm p = false by simp only [planForm]; simp; omega, Bool.false_and]
        refine RET fun h' HL => ?_
        try dsimp only [oneA]
        exact ⟨rfl, HL.le⟩
      · have ho6 := hc'
        have hpf : planForm p = formedS p.n 0 p.steps := by
          simp only [planForm, hn, and_self, decide_true, Bool.true_and]
          rw [decide_eq_true (by omega), decide_eq_true (by omega)]
          simp
        refine LIL_ind (fun n a L => ∃ (i : Int), (∃ r : Nat → AV, a = [r 0, .p b1 0, r 2, r 3, r 4, r 5, r 6, r 7, r 8, r 9, r 10, r 11, r 12, r 13, r 14, r 15, r 16, r 17, r 18, r 19, r 20, r 21, r 22, r 23, r 24, r 25, r 26, r 27, r 28, r 29, vs, .i .i64 p.steps.length, .i .i64 i, r 33, r 34, r 35, r 36, r 37, r 38, r 39, r 40, r 41, r 42, r 43, r 44, r 45, r 46, r 47, r 48, r 49, r 50, r 51, r 52, r 53, r 54, r 55, r 56, r 57, r 58, r 59, r 60, r 61, r 62, r 63, r 64, r 65]) ∧ L = [.pt b1 [.p b 0]] ∧ 0 ≤ i ∧ i + n = p.steps.length ∧ formedS p.n 0 p.steps = formedS p.n i.toNat (p.steps.drop i.toNat))
          p.steps.length ⟨0, exJ rfl, rfl, by omega, by omega, rfl⟩ ?_
        rintro n a L ⟨i, ⟨r, rfl⟩, rfl, h0, hni, hfs⟩ IH
        refine W ?_
        (first | refine LS_gt rfl ?_ ?_ | refine LS_gf rfl ?_ ?_ | refine LI_cond rfl ?_ ?_) <;> intro hc <;> have hc' := hc <;> try simp only [decide_eq_true_eq, decide_eq_false_iff_not, Bool.not_eq_true', Bool.not_eq_false', Bool.not_eq_true, Bool.not_eq_false, beq_iff_eq, bne_iff_ne, beq_eq_false_iff_ne, bne_eq_false_iff_eq, Int.not_lt, Int.not_le, ge_iff_le, gt_iff_lt, not_and, ne_eq, Decidable.not_not] at hc'
        all_goals (try (dsimp only [st, setL, AV.cells, List.set_cons_zero, List.set_cons_succ, List.drop_zero, List.drop_succ_cons, List.take_zero, List.take_succ_cons, Nat.zero_add, Nat.add_zero, Nat.reduceAdd, List.cons_append, List.nil_append, List.eraseIdx_cons_zero, List.eraseIdx_cons_succ]))
        all_goals (refine W ?_)
        · obtain ⟨s, hs', hsm, hd⟩ := drop_at h0 hc'
          have hws := hw2 s hsm
          rw [formedS_drop hd] at hfs
          refine LS_ix (fun h' HL => hs.le HL.le) enStep2 hs' h0 rfl rfl fun q o hrow => ?_
          try (dsimp only [st, setL, AV.cells, List.set_cons_zero, List.set_cons_succ, List.drop_zero, List.drop_succ_cons, List.take_zero, List.take_succ_cons, Nat.zero_add, Nat.add_zero, Nat.reduceAdd, List.cons_append, List.nil_append, List.eraseIdx_cons_zero, List.eraseIdx_cons_succ])
          refine W ?_
          refine LS_al rfl fun b3 => ?_
          try (dsimp only [st, setL, AV.cells, List.set_cons_zero, List.set_cons_succ, List.drop_zero, List.drop_succ_cons, List.take_zero, List.take_succ_cons, Nat.zero_add, Nat.add_zero, Nat.reduceAdd, List.cons_append, List.nil_append, List.eraseIdx_cons_zero, List.eraseIdx_cons_succ])
          refine W ?_
          cases hA : decide (s.1 < 0) with
          | true =>
            refine dz80_0 ?_
            refine WX ?_
            refine W ?_
            rw [hpf, hfs, decide_eq_false (by have := of_decide_eq_true hA; omega), Bool.false_and, Bool.false_and]
            refine RET fun h' HL => ?_
            try dsimp only [oneA]
            exact ⟨rfl, HL.le⟩
          | false =>
            cases hB : decide (s.1 > s.2) with
            | true =>
              refine dz80_0 ?_
              refine WX ?_
              refine W ?_
              rw [hpf, hfs, decide_eq_false (by have := of_decide_eq_true hB; omega), Bool.false_and, Bool.false_and]
              refine RET fun h' HL => ?_
              try dsimp only [oneA]
              exact ⟨rfl, HL.le⟩
            | false =>
              have hA' := of_decide_eq_false hA
              have hB' := of_decide_eq_false hB
              refine dz80_0 ?_
              refine WX ?_
              refine W ?_
              (first | refine LS_gt rfl ?_ ?_ | refine LS_gf rfl ?_ ?_ | refine LI_cond rfl ?_ ?_) <;> intro hc <;> have hc' := hc <;> try simp only [decide_eq_true_eq, decide_eq_false_iff_not, Bool.not_eq_true', Bool.not_eq_false', Bool.not_eq_true, Bool.not_eq_false, beq_iff_eq, bne_iff_ne, beq_eq_false_iff_ne, bne_eq_false_iff_eq, Int.not_lt, Int.not_le, ge_iff_le, gt_iff_lt, not_and, ne_eq, Decidable.not_not] at hc'
              all_goals (try (dsimp only [st, setL, AV.cells, List.set_cons_zero, List.set_cons_succ, List.drop_zero, List.drop_succ_cons, List.take_zero, List.take_succ_cons, Nat.zero_add, Nat.add_zero, Nat.reduceAdd, List.cons_append, List.nil_append, List.eraseIdx_cons_zero, List.eraseIdx_cons_succ]))
              all_goals (refine W ?_)
              · rw [hpf, hfs, decide_eq_false (by omega), Bool.false_and, Bool.false_and]
                refine RET fun h' HL => ?_
                try dsimp only [oneA]
                exact ⟨rfl, HL.le⟩
              · refine LIL_drop 1 ?_
                refine IH (n - 1) _ _ (by omega) ⟨i + 1, exJ rfl, rfl, by omega, by omega, ?_⟩
                rw [hfs, decide_eq_true (by omega), Bool.true_and, toNat_succ h0]
        · have e : i.toNat = p.steps.length := by omega
          rw [e, List.drop_length] at hfs
          have hfs' : formedS p.n 0 p.steps = true := hfs
          clear IH
          refine LS_c0 (fun h' HL wf => ContainsFunc_int_ac p.outs vo _ _ (fun x => !decide (0 ≤ x ∧ x ≤ p.n + p.steps.length - 1)) h' (ho.le HL.le) (by omega) (fun x _ h2 hle => formed_1_ac x p b b1 vs vo h2 (hle.cell (HL.cellP 0 rfl rfl)) (hp.le (HL.le.trans hle)) (by omega) (by omega) (by omega))) rfl rfl ?_
          try (dsimp only [st, setL, AV.cells, List.set_cons_zero, List.set_cons_succ, List.drop_zero, List.drop_succ_cons, List.take_zero, List.take_succ_cons, Nat.zero_add, Nat.add_zero, Nat.reduceAdd, List.cons_append, List.nil_append, List.eraseIdx_cons_zero, List.eraseIdx_cons_succ])
          refine W ?_
          refine RET fun h' HL => ?_
          try dsimp only [oneA]
          refine ⟨?_, HL.le⟩
          rw [hpf, hfs', Bool.true_and, outsOk, any_not, Bool.not_not]
    · rw [show planForm p = false by simp only [planForm]; simp; omega, Bool.false_and]
      refine RET fun h' HL => ?_
      try dsimp only [oneA]
      exact ⟨rfl, HL.le⟩
  · have hn := of_decide_eq_false (nt hc)
    rw [show planForm p = false by simp only [planForm, decide_eq_false hn, Bool.false_and], Bool.false_and]
    refine RET fun h' HL => ?_
    try dsimp only [oneA]
    exact ⟨rfl, HL.le⟩

def maxL (m : Int) : List Int → Int
  | [] => m
  | x :: l => maxL (if x > m then x else m) l

theorem maxL_gt {b : Int} : ∀ (l : List Int) (m : Int), decide (maxL m l > b) = (decide (m > b) || l.any fun x => decide (x > b))
  | [], m => by simp [maxL]
  | x :: l, m => by
    rw [maxL, maxL_gt l]
    rw [List.any_cons, ← Bool.or_assoc]
    congr 1
    split <;> by_cases h1 : m > b <;> by_cases h2 : x > b <;> simp [h1, h2] <;> omega

theorem Max_ac (y : Int) (l : List Int) (v : AV) (h : AH) (hR : Rd h v (y :: l)) (hl : l.length ≤ 4611686018427387904) :
    AC Try.prog 83 [v] h (fun r h' => r = .i .i64 (maxL y l) ∧ h.le h') := by
  refine e83 _ fun wf => ?_
  unfold c83
  refine LI_start wf ?_
  refine W ?_
  first | (refine LS_gtnH rfl (decide_eq_false (by simp; omega)) ?_; intro hg; try (dsimp only [st, setL, AV.cells, List.set_cons_zero, List.set_cons_succ, List.drop_zero, List.drop_succ_cons, List.take_zero, List.take_succ_cons, Nat.zero_add, Nat.add_zero, Nat.reduceAdd, List.cons_append, List.nil_append, List.eraseIdx_cons_zero, List.eraseIdx_cons_succ])) | (refine LS_gfnH rfl (decide_eq_false (by simp; omega)) ?_; intro hg; try (dsimp only [st, setL, AV.cells, List.set_cons_zero, List.set_cons_succ, List.drop_zero, List.drop_succ_cons, List.take_zero, List.take_succ_cons, Nat.zero_add, Nat.add_zero, Nat.reduceAdd, List.cons_append, List.nil_append, List.eraseIdx_cons_zero, List.eraseIdx_cons_succ])) | (refine LI_cond_fH rfl (decide_eq_false (by simp; omega)) ?_; intro hg)
  refine W ?_
  refine LS_ix (n := 0) (y := y) (fun h' HL => hR.le HL.le) enI1 rfl (by decide) rfl rfl fun b o hrow => ?_
  try (dsimp only [st, setL, AV.cells, List.set_cons_zero, List.set_cons_succ, List.drop_zero, List.drop_succ_cons, List.take_zero, List.take_succ_cons, Nat.zero_add, Nat.add_zero, Nat.reduceAdd, List.cons_append, List.nil_append, List.eraseIdx_cons_zero, List.eraseIdx_cons_succ])
  refine W ?_
  refine LIL_ind (fun n a L => ∃ (m i : Int), (∃ r : Nat → AV, a = [v, r 1, r 2, .i .i64 m, .i .i64 i, r 5, r 6, r 7, r 8, r 9, r 10, r 11, r 12, r 13, r 14, r 15, r 16, r 17, r 18, r 19, r 20, r 21, r 22, r 23, r 24]) ∧ L = [] ∧ 1 ≤ i ∧ i + n = l.length + 1 ∧ maxL y l = maxL m (l.drop (i.toNat - 1)))
    l.length ⟨y, 1, exJ rfl, rfl, by omega, by omega, rfl⟩ ?_
  rintro n a L ⟨m, i, ⟨r, rfl⟩, rfl, h0, hn, heq⟩ IH
  refine W ?_
  (first | refine LS_gt rfl ?_ ?_ | refine LS_gf rfl ?_ ?_ | refine LI_cond rfl ?_ ?_) <;> intro hc <;> have hc' := hc <;> try simp only [decide_eq_true_eq, decide_eq_false_iff_not, Bool.not_eq_true', Bool.not_eq_false', Bool.not_eq_true, Bool.not_eq_false, beq_iff_eq, bne_iff_ne, beq_eq_false_iff_ne, bne_eq_false_iff_eq, Int.not_lt, Int.not_le, ge_iff_le, gt_iff_lt, not_and, ne_eq, Decidable.not_not] at hc'
  all_goals (try (dsimp only [st, setL, AV.cells, List.set_cons_zero, List.set_cons_succ, List.drop_zero, List.drop_succ_cons, List.take_zero, List.take_succ_cons, Nat.zero_add, Nat.add_zero, Nat.reduceAdd, List.cons_append, List.nil_append, List.eraseIdx_cons_zero, List.eraseIdx_cons_succ]))
  all_goals (refine W ?_)
  · simp only [List.length_cons] at hc'
    obtain ⟨z, hz, hzm, hd⟩ := drop_at (l := l) (i := i - 1) (by omega) (by omega)
    have e1 : (i - 1).toNat = i.toNat - 1 := by omega
    rw [e1] at hz hd
    rw [hd] at heq
    refine LS_ix (y := z) (fun h' HL => hR.le HL.le) enI1 (by rw [show i.toNat = (i.toNat - 1) + 1 by omega]; exact hz) (by omega) rfl rfl fun b o hrow => ?_
    try (dsimp only [st, setL, AV.cells, List.set_cons_zero, List.set_cons_succ, List.drop_zero, List.drop_succ_cons, List.take_zero, List.take_succ_cons, Nat.zero_add, Nat.add_zero, Nat.reduceAdd, List.cons_append, List.nil_append, List.eraseIdx_cons_zero, List.eraseIdx_cons_succ])
    refine W ?_
    refine IH (n - 1) _ _ (by omega) ⟨_, i + 1, exJ rfl, rfl, by omega, by omega, ?_⟩
    rw [heq, maxL, show (i + 1).toNat - 1 = i.toNat - 1 + 1 by omega]
  · refine RET fun h' HL => ?_
    try dsimp only [oneA]
    refine ⟨?_, HL.le⟩
    simp only [List.length_cons] at hc'
    rw [heq, List.drop_eq_nil_of_le (by omega)]
    rfl

theorem IsPlan_1_ac (x : List Int) (v : AV) (h : AH) (hR : Rd h v x) (h0 : 0 < x.length) (hl : x.length ≤ 4611686018427387904) :
    AC Try.prog 82 [v] h (fun r h' => r = .b (x.any fun y => decide (y > 1000000)) ∧ h.le h') := by
  cases x with
  | nil => simp at h0
  | cons y l =>
    refine e82 _ fun wf => ?_
    unfold c82
    refine LI_start wf ?_
    refine W ?_
    refine LS_c0 (fun h' HL wf => Max_ac y l v h' (hR.le HL.le) (by simp at hl; omega)) rfl rfl ?_
    try (dsimp only [st, setL, AV.cells, List.set_cons_zero, List.set_cons_succ, List.drop_zero, List.drop_succ_cons, List.take_zero, List.take_succ_cons, Nat.zero_add, Nat.add_zero, Nat.reduceAdd, List.cons_append, List.nil_append, List.eraseIdx_cons_zero, List.eraseIdx_cons_succ])
    refine W ?_
    refine RET fun h' HL => ?_
    try dsimp only [oneA]
    exact ⟨by rw [List.any_cons, ← maxL_gt], HL.le⟩

theorem small_any {r : List Int} (hb : row01 r) : (r.all fun x => decide (0 ≤ x ∧ x ≤ 1000000)) = !(r.any fun y => decide (y > 1000000)) := by
  rw [Bool.eq_iff_iff]
  simp only [List.all_eq_true, Bool.not_eq_true', List.any_eq_false, decide_eq_true_eq]
  constructor
  · intro H x hx
    have := H x hx
    omega
  · intro H x hx
    have h1 := H x hx
    have h2 := hb x hx
    omega

theorem all_not {α : Type} : ∀ {l : List α} {f g : α → Bool}, (∀ r ∈ l, f r = !g r) → l.all f = !l.any g
  | [], _, _, _ => rfl
  | x :: l, f, g, h => by
    rw [List.all_cons, List.any_cons, Bool.not_or, h x (by simp), all_not (l := l) (f := f) (g := g) fun r hr => h r (by simp [hr])]

theorem IsPlan_ac (p : PlanM) (v : AV) (h : AH) (hR : PlR h v p) (hw : inI p.n) (hl : p.steps.length ≤ 1048576) (hl2 : p.outs.length ≤ 1048576) (hw2 : ∀ s ∈ p.steps, inI s.1 ∧ inI s.2) :
    AC Try.prog 61 [v] h (fun r h' => r = .b (planOk p) ∧ h.le h') := by
  obtain ⟨vs, vo, rfl, hs, ho⟩ := hR
  refine e61 _ fun wf => ?_
  unfold c61
  refine LI_start wf ?_
  refine W ?_
  refine LS_bxn rfl (sc_cons rfl (sc_cons (rd_sc hs) (sc_cons (rd_sc ho) rfl))) fun b1 => ?_
  try (dsimp only [st, setL, AV.cells, List.set_cons_zero, List.set_cons_succ, List.drop_zero, List.drop_succ_cons, List.take_zero, List.take_succ_cons, Nat.zero_add, Nat.add_zero, Nat.reduceAdd, List.cons_append, List.nil_append, List.eraseIdx_cons_zero, List.eraseIdx_cons_succ])
  refine W ?_
  refine LS_c0 (fun h' HL wf => formed_ac p b1 vs vo h' ⟨HL.rowsP 0 rfl (Nat.le_refl 3) rfl, hs.le HL.le, ho.le HL.le⟩ hw hl hl2 hw2) rfl rfl ?_
  try (dsimp only [st, setL, AV.cells, List.set_cons_zero, List.set_cons_succ, List.drop_zero, List.drop_succ_cons, List.take_zero, List.take_succ_cons, Nat.zero_add, Nat.add_zero, Nat.reduceAdd, List.cons_append, List.nil_append, List.eraseIdx_cons_zero, List.eraseIdx_cons_succ])
  refine W ?_
  (first | refine LS_gt rfl ?_ ?_ | refine LS_gf rfl ?_ ?_ | refine LI_cond rfl ?_ ?_) <;> intro hc <;> have hc' := hc <;> try simp only [decide_eq_true_eq, decide_eq_false_iff_not, Bool.not_eq_true', Bool.not_eq_false', Bool.not_eq_true, Bool.not_eq_false, beq_iff_eq, bne_iff_ne, beq_eq_false_iff_ne, bne_eq_false_iff_eq, Int.not_lt, Int.not_le, ge_iff_le, gt_iff_lt, not_and, ne_eq, Decidable.not_not] at hc'
  all_goals (try (dsimp only [st, setL, AV.cells, List.set_cons_zero, List.set_cons_succ, List.drop_zero, List.drop_succ_cons, List.take_zero, List.take_succ_cons, Nat.zero_add, Nat.add_zero, Nat.reduceAdd, List.cons_append, List.nil_append, List.eraseIdx_cons_zero, List.eraseIdx_cons_succ]))
  all_goals (refine W ?_)
  · simp only [Bool.and_eq_true] at hc
    obtain ⟨hpf, hou⟩ := hc
    obtain ⟨h1, h2, h3, h4, h5⟩ := planForm_out hpf
    obtain ⟨hlen, hel⟩ := expsT_ok h5 h1 p.steps.length (Nat.le_refl _)
    rw [expsT_end] at hlen hel
    refine LS_c1 (fun h' HL wf => exponents_ac p b1 vs vo h' ⟨HL.rowsP 0 rfl (Nat.le_refl 3) rfl, hs.le HL.le, ho.le HL.le⟩ h1 h2 h3 h5) rfl rfl ?_
    try (dsimp only [st, setL, AV.cells, List.set_cons_zero, List.set_cons_succ, List.drop_zero, List.drop_succ_cons, List.take_zero, List.take_succ_cons, Nat.zero_add, Nat.add_zero, Nat.reduceAdd, List.cons_append, List.nil_append, List.eraseIdx_cons_zero, List.eraseIdx_cons_succ])
    refine W ?_
    rintro ex M ⟨us, hus, hrl, hrs, rfl⟩
    try (dsimp only [st, setL, AV.cells, List.set_cons_zero, List.set_cons_succ, List.drop_zero, List.drop_succ_cons, List.take_zero, List.take_succ_cons, Nat.zero_add, Nat.add_zero, Nat.reduceAdd, List.cons_append, List.nil_append, List.eraseIdx_cons_zero, List.eraseIdx_cons_succ])
    unfold ssI
    refine W ?_
    refine LS_c0 (fun h' HL wf => ContainsFuncSS_ac (expsE p) us ex _ _ (fun r => r.any fun y => decide (y > 1000000)) h' (HL.rdI 0 rfl enV1 (by decide)) hus (by omega) (fun i u x hu hx h2 hle => IsPlan_1_ac x u h2 ((HL.rdM (List.mem_cons_of_mem _ (List.mem_append_left _ (rowsI_in hu hx))) enI1 (by decide)).le hle) (by have := (hel x (List.mem_of_getElem? hx)).1; omega) (by have := (hel x (List.mem_of_getElem? hx)).1; omega))) rfl rfl ?_
    try (dsimp only [st, setL, AV.cells, List.set_cons_zero, List.set_cons_succ, List.drop_zero, List.drop_succ_cons, List.take_zero, List.take_succ_cons, Nat.zero_add, Nat.add_zero, Nat.reduceAdd, List.cons_append, List.nil_append, List.eraseIdx_cons_zero, List.eraseIdx_cons_succ])
    refine W ?_
    refine RET fun h' HL => ?_
    try dsimp only [oneA]
    refine ⟨?_, HL.le⟩
    simp only [planOk, hpf, hou, Bool.true_and, Bool.and_true, smallE]
    exact congrArg AV.b (all_not fun r hr => small_any (hel r hr).2).symm
  · refine RET fun h' HL => ?_
    try dsimp only [oneA]
    refine ⟨?_, HL.le⟩
    simp only [planOk]
    cases hpf : planForm p with
    | false => rfl
    | true => rw [hpf, Bool.true_and] at hc; rw [hc]; simp

theorem l1Has_ac (l : List Int) (v : AV) (x : Int) (h : AH) (hR : Rd h v l) (hl : l.length ≤ 4611686018427387904) : AC Try.prog 86 [v, .i .i64 x] h (fun r h' => r = .b (l.any fun y => y == x) ∧ h.le h') := by
  refine e86 _ _ fun wf => ?_
  unfold c86
  refine LI_start wf ?_
  refine W ?_
  refine LIL_ind (fun n a L => ∃ (i : Int), (∃ r : Nat → AV, a = [r 0, .i .i64 x, r 2, r 3, r 4, r 5, r 6, v, .i .i64 l.length, .i .i64 i, r 10, r 11, r 12, r 13, r 14, r 15, r 16]) ∧ L = [] ∧ 0 ≤ i ∧ i + n = l.length ∧ (l.any fun y => y == x) = ((l.drop i.toNat).any fun y => y == x))
    l.length ⟨0, exJ rfl, rfl, by omega, by omega, rfl⟩ ?_
  rintro n a L ⟨i, ⟨r, rfl⟩, rfl, h0, hn, heq⟩ IH
  refine W ?_
  (first | refine LS_gt rfl ?_ ?_ | refine LS_gf rfl ?_ ?_ | refine LI_cond rfl ?_ ?_) <;> intro hc <;> have hc' := hc <;> try simp only [decide_eq_true_eq, decide_eq_false_iff_not, Bool.not_eq_true', Bool.not_eq_false', Bool.not_eq_true, Bool.not_eq_false, beq_iff_eq, bne_iff_ne, beq_eq_false_iff_ne, bne_eq_false_iff_eq, Int.not_lt, Int.not_le, ge_iff_le, gt_iff_lt, not_and, ne_eq, Decidable.not_not] at hc'
  all_goals (try (dsimp only [st, setL, AV.cells, List.set_cons_zero, List.set_cons_succ, List.drop_zero, List.drop_succ_cons, List.take_zero, List.take_succ_cons, Nat.zero_add, Nat.add_zero, Nat.reduceAdd, List.cons_append, List.nil_append, List.eraseIdx_cons_zero, List.eraseIdx_cons_succ]))
  all_goals (refine W ?_)
  · obtain ⟨y, hy, hym, hd⟩ := drop_at h0 hc'
    rw [hd, List.any_cons] at heq
    refine LS_ix (fun h' HL => hR.le HL.le) enI1 hy h0 rfl rfl fun b o hrow => ?_
    try (dsimp only [st, setL, AV.cells, List.set_cons_zero, List.set_cons_succ, List.drop_zero, List.drop_succ_cons, List.take_zero, List.take_succ_cons, Nat.zero_add, Nat.add_zero, Nat.reduceAdd, List.cons_append, List.nil_append, List.eraseIdx_cons_zero, List.eraseIdx_cons_succ])
    refine W ?_
    (first | refine LS_gt rfl ?_ ?_ | refine LS_gf rfl ?_ ?_ | refine LI_cond rfl ?_ ?_) <;> intro hc <;> have hc' := hc <;> try simp only [decide_eq_true_eq, decide_eq_false_iff_not, Bool.not_eq_true', Bool.not_eq_false', Bool.not_eq_true, Bool.not_eq_false, beq_iff_eq, bne_iff_ne, beq_eq_false_iff_ne, bne_eq_false_iff_eq, Int.not_lt, Int.not_le, ge_iff_le, gt_iff_lt, not_and, ne_eq, Decidable.not_not] at hc'
    all_goals (try (dsimp only [st, setL, AV.cells, List.set_cons_zero, List.set_cons_succ, List.drop_zero, List.drop_succ_cons, List.take_zero, List.take_succ_cons, Nat.zero_add, Nat.add_zero, Nat.reduceAdd, List.cons_append, List.nil_append, List.eraseIdx_cons_zero, List.eraseIdx_cons_succ]))
    all_goals (refine W ?_)
    · rw [heq, hc]
      refine RET fun h' HL => ?_
      try dsimp only [oneA]
      exact ⟨rfl, HL.le⟩
    · refine IH (n - 1) _ _ (by omega) ⟨i + 1, exJ rfl, rfl, by omega, by omega, ?_⟩
      rw [heq, hc, Bool.false_or, toNat_succ h0]
  · rw [heq, List.drop_eq_nil_of_le (by omega)]
    refine RET fun h' HL => ?_
    try dsimp only [oneA]
    exact ⟨rfl, HL.le⟩

theorem planOk_out {p : PlanM} (h : planOk p = true) : 1 ≤ p.n ∧ p.n ≤ 6 ∧ p.steps.length ≤ 40 ∧ p.outs.length ≤ 6 ∧ formedS p.n 0 p.steps = true ∧ outsOk p = true := by
  simp only [planOk, Bool.and_eq_true] at h
  obtain ⟨h1, h2, h3, h4, h5⟩ := planForm_out h.1
  exact ⟨h1, h2, h3, h4, h5, h.2.2⟩

/-- Small enough for the laws. -/
structure PSm (p : PlanM) : Prop where
  wf : p.wf
  ls : p.steps.length ≤ 1048576
  lo : p.outs.length ≤ 1048576

theorem good_ac (p : PlanM) (v : AV) (h : AH) (hR : PlR h v p) (hw : PSm p) : AC Try.prog 58 [v] h (fun r h' => r = .b (planOk p) ∧ h.le h') := plGood_ac p v h hR hw.wf.n hw.ls hw.lo hw.wf.steps

theorem isPlan_ac (p : PlanM) (v : AV) (h : AH) (hR : PlR h v p) (hw : PSm p) : AC Try.prog 61 [v] h (fun r h' => r = .b (planOk p) ∧ h.le h') := IsPlan_ac p v h hR hw.wf.n hw.ls hw.lo hw.wf.steps

theorem toPlanX_ac (p : PlanM) (v : AV) (h : AH) (hR : PlR h v p) (hw : PSm p) :
    AC Try.prog 28 [v] h (fun r h' => ∃ M, (∃ vs vo, (r = .agg [.i .i64 p.n, vs, vo] ∧ lenA vs = some p.steps.length ∧ lenA vo = some p.outs.length ∧ vs.sc = true ∧ vo.sc = true) ∧ M = [.sl vs 2 (p.steps.flatMap enStep), .sl vo 1 (p.outs.flatMap enI)]) ∧ Loq h h' M) :=
  (toPlan_ac p v h hR hw.ls hw.lo).mono fun r h' ⟨M, ⟨vs, vo, e1, e2⟩, G⟩ => by
    subst e2
    have g1 := G.rdI 0 rfl enStep2 (by decide)
    have g2 := G.rdI 1 rfl enI1 (by decide)
    exact ⟨_, ⟨vs, vo, ⟨e1, g1.len, g2.len, rd_sc g1, rd_sc g2⟩, rfl⟩, G⟩

theorem plr_of {h0 h : AH} {L : List It} {p : PlanM} {vs vo : AV} (H : Loq h0 h L) (i j : Nat) (h1 : L[i]? = some (.sl vs 2 (p.steps.flatMap enStep))) (h2 : L[j]? = some (.sl vo 1 (p.outs.flatMap enI))) : PlR h (.agg [.i .i64 p.n, vs, vo]) p :=
  ⟨vs, vo, rfl, H.rdI i h1 enStep2 (by decide), H.rdI j h2 enI1 (by decide)⟩

theorem psm_of {p : PlanM} (hw : p.wf) {z : Int} (hz : 0 ≤ z → (p.steps.length + p.outs.length : Int) ≤ 1048576) (h : 0 ≤ z) : PSm p := ⟨hw, by have := hz h; omega, by have := hz h; omega⟩

/-! ### Marks -/
theorem markIntSL_ac (l : List Int) (v : AV) (k : Int) (h0 h : AH) (L : List It) (HL : Loq h0 h (.sl v 1 (l.flatMap enI) :: L)) (hk0 : 0 ≤ k) (hk1 : k + l.length ≤ 4611686018427387904) :
    AC Try.prog 37 [v, .i .i64 k] h (fun r h' => ∃ M, (r = .i .i64 (k + l.length) ∧ M = .sl v 1 ((markL k l.length).flatMap enI) :: L) ∧ Loq h0 h' M) := by
  have hlv := (HL.rdI 0 rfl enI1 (by decide)).len
  refine e37 _ _ fun wf => ?_
  unfold c37
  refine LI_startL HL ?_
  refine W ?_
  refine LIL_ind (fun n a M => ∃ (i : Int), (∃ r : Nat → AV, a = [v, .i .i64 (k + i), r 2, r 3, .i .i64 0, .i .i64 i, r 6, r 7, r 8, r 9, r 10, r 11, r 12, r 13, r 14, r 15, r 16, r 17, r 18]) ∧ M = .sl v 1 ((markL k i.toNat ++ l.drop i.toNat).flatMap enI) :: L ∧ 0 ≤ i ∧ i + n = l.length)
    l.length ⟨0, exJ (by simp only [Int.add_zero]; rfl), by simp [markL], by omega, by omega⟩ ?_
  rintro n a M ⟨i, ⟨r, rfl⟩, rfl, h0', hn⟩ IH
  have hlen : (markL k i.toNat ++ l.drop i.toNat).length = l.length := by simp [markL_len]; omega
  refine W ?_
  (first | refine LS_gt rfl ?_ ?_ | refine LS_gf rfl ?_ ?_ | refine LI_cond rfl ?_ ?_) <;> intro hc <;> have hc' := hc <;> try simp only [decide_eq_true_eq, decide_eq_false_iff_not, Bool.not_eq_true', Bool.not_eq_false', Bool.not_eq_true, Bool.not_eq_false, beq_iff_eq, bne_iff_ne, beq_eq_false_iff_ne, bne_eq_false_iff_eq, Int.not_lt, Int.not_le, ge_iff_le, gt_iff_lt, not_and, ne_eq, Decidable.not_not] at hc'
  all_goals (try (dsimp only [st, setL, AV.cells, List.set_cons_zero, List.set_cons_succ, List.drop_zero, List.drop_succ_cons, List.take_zero, List.take_succ_cons, Nat.zero_add, Nat.add_zero, Nat.reduceAdd, List.cons_append, List.nil_append, List.eraseIdx_cons_zero, List.eraseIdx_cons_succ]))
  all_goals (refine W ?_)
  · obtain ⟨b, o, c, rfl⟩ := sl_of hlv (by omega)
    refine LS_is h0' hc' rfl rfl ?_
    try (dsimp only [st, setL, AV.cells, List.set_cons_zero, List.set_cons_succ, List.drop_zero, List.drop_succ_cons, List.take_zero, List.take_succ_cons, Nat.zero_add, Nat.add_zero, Nat.reduceAdd, List.cons_append, List.nil_append, List.eraseIdx_cons_zero, List.eraseIdx_cons_succ])
    refine W ?_
    refine LS_ss (k + i) 0 i.toNat rfl (by omega) rfl rfl enI1 (by decide) rfl rfl rfl ?_
    try (dsimp only [st, setL, AV.cells, List.set_cons_zero, List.set_cons_succ, List.drop_zero, List.drop_succ_cons, List.take_zero, List.take_succ_cons, Nat.zero_add, Nat.add_zero, Nat.reduceAdd, List.cons_append, List.nil_append, List.eraseIdx_cons_zero, List.eraseIdx_cons_succ])
    refine W ?_
    have hz : k + i = k + (i.toNat : Int) := by omega
    refine IH (n - 1) _ _ (by omega) ⟨i + 1, exJ (by simp only [Int.add_assoc]; rfl), ?_, by omega, by omega⟩
    rw [toNat_succ h0', hz, markL_set (by omega)]
  · have e : i.toNat = l.length := by omega
    rw [e, List.drop_length, List.append_nil]
    refine RET fun h' HL => ?_
    try dsimp only [oneA]
    exact ⟨_, ⟨by rw [show i = (l.length : Int) by omega], rfl⟩, HL⟩

def markP : Int → Nat → List (Int × Int)
  | _, 0 => []
  | k, n + 1 => (k, k + 1) :: markP (k + 2) n

theorem markP_len : ∀ (n : Nat) (k : Int), (markP k n).length = n
  | 0, _ => rfl
  | n + 1, k => by simp [markP, markP_len n]

theorem markP_get : ∀ (n : Nat) (k : Int) (i : Nat), i < n → (markP k n)[i]? = some (k + 2 * i, k + 2 * i + 1)
  | 0, _, i, h => by omega
  | n + 1, k, 0, _ => by simp [markP]
  | n + 1, k, i + 1, h => by
    simp only [markP, List.getElem?_cons_succ]
    rw [markP_get n (k + 2) i (by omega)]
    congr 2 <;> omega

theorem markP_set {l : List (Int × Int)} {k : Int} {i : Nat} {y : Int × Int} (hy : l[i]? = some y) : (((markP k i ++ l.drop i).set i (k + 2 * i, y.2)).set i (k + 2 * i, k + 2 * i + 1)) = markP k (i + 1) ++ l.drop (i + 1) := by
  have h := (List.getElem?_eq_some_iff.1 hy).1
  have hi := markP_len i k
  have hi1 := markP_len (i + 1) k
  rw [List.set_set]
  apply List.ext_getElem?
  intro j
  by_cases e : i = j
  · subst e
    rw [List.getElem?_set_self (by simp [hi]; omega), List.getElem?_append_left (by omega), markP_get (i + 1) k i (by omega)]
  · rw [List.getElem?_set_ne e]
    by_cases hlt : j < i
    · rw [List.getElem?_append_left (by omega), List.getElem?_append_left (by omega), markP_get i k j hlt, markP_get (i + 1) k j (by omega)]
    · rw [List.getElem?_append_right (by omega), List.getElem?_append_right (by omega), hi, hi1, List.getElem?_drop, List.getElem?_drop]
      congr 1
      omega

theorem markStepSL_ac (l : List (Int × Int)) (v : AV) (k : Int) (h0 h : AH) (L : List It) (HL : Loq h0 h (.sl v 2 (l.flatMap enStep) :: L)) (hk0 : 0 ≤ k) (hk1 : k + 2 * l.length ≤ 4611686018427387904) :
    AC Try.prog 66 [v, .i .i64 k] h (fun r h' => ∃ M, (r = .i .i64 (k + 2 * l.length) ∧ M = .sl v 2 ((markP k l.length).flatMap enStep) :: L) ∧ Loq h0 h' M) := by
  have hlv := (HL.rdI 0 rfl enStep2 (by decide)).len
  refine e66 _ _ fun wf => ?_
  unfold c66
  refine LI_startL HL ?_
  refine W ?_
  refine LIL_ind (fun n a M => ∃ (i kk : Int), (∃ r : Nat → AV, a = [v, .i .i64 kk, r 2, r 3, r 4, .i .i64 i, r 6, r 7, r 8, r 9, r 10, r 11, r 12, r 13, r 14, r 15, r 16, r 17, r 18, r 19, r 20, r 21, r 22, r 23, r 24, r 25, r 26]) ∧ M = .sl v 2 ((markP k i.toNat ++ l.drop i.toNat).flatMap enStep) :: L ∧ 0 ≤ i ∧ i + n = l.length ∧ kk = k + 2 * i)
    l.length ⟨0, k, exJ rfl, by simp [markP], by omega, by omega, by omega⟩ ?_
  rintro n a M ⟨i, kk, ⟨r, rfl⟩, rfl, h0', hn, rfl⟩ IH
  have hlen : (markP k i.toNat ++ l.drop i.toNat).length = l.length := by simp [markP_len]; omega
  refine W ?_
  (first | refine LS_gt rfl ?_ ?_ | refine LS_gf rfl ?_ ?_ | refine LI_cond rfl ?_ ?_) <;> intro hc <;> have hc' := hc <;> try simp only [decide_eq_true_eq, decide_eq_false_iff_not, Bool.not_eq_true', Bool.not_eq_false', Bool.not_eq_true, Bool.not_eq_false, beq_iff_eq, bne_iff_ne, beq_eq_false_iff_ne, bne_eq_false_iff_eq, Int.not_lt, Int.not_le, ge_iff_le, gt_iff_lt, not_and, ne_eq, Decidable.not_not] at hc'
  all_goals (try (dsimp only [st, setL, AV.cells, List.set_cons_zero, List.set_cons_succ, List.drop_zero, List.drop_succ_cons, List.take_zero, List.take_succ_cons, Nat.zero_add, Nat.add_zero, Nat.reduceAdd, List.cons_append, List.nil_append, List.eraseIdx_cons_zero, List.eraseIdx_cons_succ]))
  all_goals (refine W ?_)
  · obtain ⟨b, o, c, rfl⟩ := sl_of hlv (by omega)
    obtain ⟨y, hy, _, _⟩ := drop_at (l := l) h0' hc'
    have hy1 : (markP k i.toNat ++ l.drop i.toNat)[i.toNat]? = some y := by rw [List.getElem?_append_right (by rw [markP_len]; omega), markP_len, Nat.sub_self, List.getElem?_drop]; simpa using hy
    have hz : k + 2 * i = k + 2 * (i.toNat : Int) := by omega
    refine LS_is h0' hc' rfl rfl ?_
    try (dsimp only [st, setL, AV.cells, List.set_cons_zero, List.set_cons_succ, List.drop_zero, List.drop_succ_cons, List.take_zero, List.take_succ_cons, Nat.zero_add, Nat.add_zero, Nat.reduceAdd, List.cons_append, List.nil_append, List.eraseIdx_cons_zero, List.eraseIdx_cons_succ])
    refine W ?_
    refine LS_sf (k + 2 * i, y.2) 0 i.toNat 0 rfl hy1 (by decide) rfl rfl enStep2 (by decide) rfl rfl rfl ?_
    try (dsimp only [st, setL, AV.cells, List.set_cons_zero, List.set_cons_succ, List.drop_zero, List.drop_succ_cons, List.take_zero, List.take_succ_cons, Nat.zero_add, Nat.add_zero, Nat.reduceAdd, List.cons_append, List.nil_append, List.eraseIdx_cons_zero, List.eraseIdx_cons_succ])
    refine W ?_
    have hy2 : ((markP k i.toNat ++ l.drop i.toNat).set i.toNat (k + 2 * i, y.2))[i.toNat]? = some (k + 2 * i, y.2) := List.getElem?_set_self (by omega)
    refine LS_is h0' hc' rfl rfl ?_
    try (dsimp only [st, setL, AV.cells, List.set_cons_zero, List.set_cons_succ, List.drop_zero, List.drop_succ_cons, List.take_zero, List.take_succ_cons, Nat.zero_add, Nat.add_zero, Nat.reduceAdd, List.cons_append, List.nil_append, List.eraseIdx_cons_zero, List.eraseIdx_cons_succ])
    refine W ?_
    refine LS_sf (k + 2 * i, k + 2 * i + 1) 0 i.toNat 1 rfl hy2 (by decide) rfl rfl enStep2 (by decide) rfl rfl rfl ?_
    try (dsimp only [st, setL, AV.cells, List.set_cons_zero, List.set_cons_succ, List.drop_zero, List.drop_succ_cons, List.take_zero, List.take_succ_cons, Nat.zero_add, Nat.add_zero, Nat.reduceAdd, List.cons_append, List.nil_append, List.eraseIdx_cons_zero, List.eraseIdx_cons_succ])
    refine W ?_
    refine IH (n - 1) _ _ (by omega) ⟨i + 1, _, exJ rfl, ?_, by omega, by omega, by omega⟩
    rw [toNat_succ h0', hz, markP_set hy]
  · have e : i.toNat = l.length := by omega
    rw [e, List.drop_length, List.append_nil]
    refine RET fun h' HL => ?_
    try dsimp only [oneA]
    exact ⟨_, ⟨by rw [show i = (l.length : Int) by omega], rfl⟩, HL⟩

theorem markPlan_ac (p : PlanM) (vs vo : AV) (k : Int) (h0 h : AH) (L : List It) (HL : Loq h0 h (.sl vs 2 (p.steps.flatMap enStep) :: .sl vo 1 (p.outs.flatMap enI) :: L)) (hk0 : 0 ≤ k) (hk1 : k + 2 * p.steps.length + p.outs.length ≤ 4611686018427387904) :
    AC Try.prog 31 [.agg [.i .i64 p.n, vs, vo], .i .i64 k] h (fun r h' => ∃ M, (r = .i .i64 (k + 2 * p.steps.length + p.outs.length) ∧ M = .sl vs 2 ((markP k p.steps.length).flatMap enStep) :: .sl vo 1 ((markL (k + 2 * p.steps.length) p.outs.length).flatMap enI) :: L) ∧ Loq h0 h' M) := by
  have s1 := rd_sc (HL.rdI 0 rfl enStep2 (by decide))
  have s2 := rd_sc (HL.rdI 1 rfl enI1 (by decide))
  refine e31 _ _ fun wf => ?_
  unfold c31
  refine LI_startL HL ?_
  refine W ?_
  refine LS_bxn rfl (sc_cons rfl (sc_cons s1 (sc_cons s2 rfl))) fun b1 => ?_
  try (dsimp only [st, setL, AV.cells, List.set_cons_zero, List.set_cons_succ, List.drop_zero, List.drop_succ_cons, List.take_zero, List.take_succ_cons, Nat.zero_add, Nat.add_zero, Nat.reduceAdd, List.cons_append, List.nil_append, List.eraseIdx_cons_zero, List.eraseIdx_cons_succ])
  refine W ?_
  refine LS_rot 1 rfl ?_
  refine LS_cm (.refl _) (fun h' HL wf => markStepSL_ac p.steps vs k h0 h' _ HL hk0 (by omega)) rfl rfl ?_
  try (dsimp only [st, setL, AV.cells, List.set_cons_zero, List.set_cons_succ, List.drop_zero, List.drop_succ_cons, List.take_zero, List.take_succ_cons, Nat.zero_add, Nat.add_zero, Nat.reduceAdd, List.cons_append, List.nil_append, List.eraseIdx_cons_zero, List.eraseIdx_cons_succ])
  refine W ?_
  rintro _ _ ⟨rfl, rfl⟩
  try (dsimp only [st, setL, AV.cells, List.set_cons_zero, List.set_cons_succ, List.drop_zero, List.drop_succ_cons, List.take_zero, List.take_succ_cons, Nat.zero_add, Nat.add_zero, Nat.reduceAdd, List.cons_append, List.nil_append, List.eraseIdx_cons_zero, List.eraseIdx_cons_succ])
  refine W ?_
  refine LS_rot 2 rfl ?_
  refine LS_cm (.refl _) (fun h' HL wf => markIntSL_ac p.outs vo (k + 2 * p.steps.length) h0 h' _ HL (by omega) (by omega)) rfl rfl ?_
  try (dsimp only [st, setL, AV.cells, List.set_cons_zero, List.set_cons_succ, List.drop_zero, List.drop_succ_cons, List.take_zero, List.take_succ_cons, Nat.zero_add, Nat.add_zero, Nat.reduceAdd, List.cons_append, List.nil_append, List.eraseIdx_cons_zero, List.eraseIdx_cons_succ])
  refine W ?_
  rintro _ _ ⟨rfl, rfl⟩
  try (dsimp only [st, setL, AV.cells, List.set_cons_zero, List.set_cons_succ, List.drop_zero, List.drop_succ_cons, List.take_zero, List.take_succ_cons, Nat.zero_add, Nat.add_zero, Nat.reduceAdd, List.cons_append, List.nil_append, List.eraseIdx_cons_zero, List.eraseIdx_cons_succ])
  refine W ?_
  refine RET fun h' HL => ?_
  try dsimp only [oneA]
  exact ⟨_, ⟨rfl, rfl⟩, (HL.rot 1 rfl).sub (.cons_cons _ (.cons_cons _ (.cons _ (.refl _))))⟩

theorem loq_ns {h0 h : AH} {L : List It} (H : Loq h0 h L) (k : Nat) : Loq h0 h (.sl .ns k [] :: L) := H.cons (.inl ⟨rfl, rfl⟩) fun y hy => .sl fun b e => by cases e

/-- A list handed back, and whether. -/
def TupI (l : List Int) (ok : Bool) (r : AV) (M : List It) : Prop := ∃ w, r = .tup [w, .b ok] ∧ lenA w = some l.length ∧ w.sc = true ∧ M = [.sl w 1 (l.flatMap enI)]

theorem TupI.none {h0 h : AH} {L : List It} (H : Loq h0 h L) : ∃ M, TupI [] false (.tup [.ns, .b false]) M ∧ Loq h0 h M := ⟨_, ⟨.ns, rfl, rfl, rfl, rfl⟩, loq_ns (H.sub (List.nil_sublist _)) 1⟩

def iotaI (n : Nat) : List Int := (List.range n).map Int.ofNat

theorem iotaI_succ (n : Nat) : iotaI (n + 1) = iotaI n ++ [(n : Int)] := by simp [iotaI, List.range_succ]

theorem firsts_ac (k : Int) (h : AH) (wf : h.wf) (h0 : 0 ≤ k) (h1 : k ≤ 1048576) : AC Try.prog 54 [.i .i64 k] h (fun r h' => AL.Own h 1 enI h' r (iotaI k.toNat)) := by
  clear wf
  refine e54 _ fun wf => ?_
  unfold c54
  refine LI_start wf ?_
  refine W ?_
  refine LS_lt ([] : List Int) rfl rfl (by decide) rfl rfl rfl rfl enI1 rfl rfl fun lit3 hlit3 slit3 => ?_
  try (dsimp only [st, setL, AV.cells, List.set_cons_zero, List.set_cons_succ, List.drop_zero, List.drop_succ_cons, List.take_zero, List.take_succ_cons, Nat.zero_add, Nat.add_zero, Nat.reduceAdd, List.cons_append, List.nil_append, List.eraseIdx_cons_zero, List.eraseIdx_cons_succ])
  refine W ?_
  refine LIL_ind (fun n a L => ∃ (x : Int) (o : AV), (∃ r : Nat → AV, a = [r 0, r 1, r 2, o, r 4, r 5, .i .i64 k, .i .i64 x, r 8, r 9, r 10, r 11, r 12, r 13, r 14, r 15]) ∧ L = [.sl o 1 ((iotaI x.toNat).flatMap enI)] ∧ 0 ≤ x ∧ x + n = k)
    k.toNat ⟨0, _, exJ rfl, rfl, by omega, by omega⟩ ?_
  rintro n a L ⟨x, o, ⟨r, rfl⟩, rfl, hx0, hn⟩ IH
  have hxx : ((x.toNat : Nat) : Int) = x := by omega
  have hil : (iotaI x.toNat).length = x.toNat := by simp [iotaI]
  refine W ?_
  (first | refine LS_gt rfl ?_ ?_ | refine LS_gf rfl ?_ ?_ | refine LI_cond rfl ?_ ?_) <;> intro hc <;> have hc' := hc <;> try simp only [decide_eq_true_eq, decide_eq_false_iff_not, Bool.not_eq_true', Bool.not_eq_false', Bool.not_eq_true, Bool.not_eq_false, beq_iff_eq, bne_iff_ne, beq_eq_false_iff_ne, bne_eq_false_iff_eq, Int.not_lt, Int.not_le, ge_iff_le, gt_iff_lt, not_and, ne_eq, Decidable.not_not] at hc'
  all_goals (try (dsimp only [st, setL, AV.cells, List.set_cons_zero, List.set_cons_succ, List.drop_zero, List.drop_succ_cons, List.take_zero, List.take_succ_cons, Nat.zero_add, Nat.add_zero, Nat.reduceAdd, List.cons_append, List.nil_append, List.eraseIdx_cons_zero, List.eraseIdx_cons_succ]))
  all_goals (refine W ?_)
  · refine LS_lt [x] rfl rfl (by decide) rfl rfl rfl rfl enI1 rfl rfl fun lit7 hlit7 slit7 => ?_
    try (dsimp only [st, setL, AV.cells, List.set_cons_zero, List.set_cons_succ, List.drop_zero, List.drop_succ_cons, List.take_zero, List.take_succ_cons, Nat.zero_add, Nat.add_zero, Nat.reduceAdd, List.cons_append, List.nil_append, List.eraseIdx_cons_zero, List.eraseIdx_cons_succ])
    refine W ?_
    refine LS_ap 1 rfl (fun h' HL => HL.rdI 0 rfl enI1 (by decide)) enI1 (by decide) (by simp) (by simp; omega) (by simp; omega) rfl rfl rfl fun w8 hw8 sw8 => ?_
    try (dsimp only [st, setL, AV.cells, List.set_cons_zero, List.set_cons_succ, List.drop_zero, List.drop_succ_cons, List.take_zero, List.take_succ_cons, Nat.zero_add, Nat.add_zero, Nat.reduceAdd, List.cons_append, List.nil_append, List.eraseIdx_cons_zero, List.eraseIdx_cons_succ])
    refine W ?_
    refine LIL_drop 1 ?_
    refine IH (n - 1) _ _ (by omega) ⟨x + 1, _, exJ rfl, by rw [toNat_succ hx0, iotaI_succ, hxx]; rfl, by omega, by omega⟩
  · have ex : x = k := by omega
    subst ex
    refine RET fun h' HL => ?_
    try dsimp only [oneA]
    exact HL.ownI 0 rfl enI1 (by decide)

theorem lit1 {v : AV} (h : v.cells = [v]) (hs : v.cells.all AV.sc = true) : litA 1 0 [(0, v)] = some [v] := by
  unfold litA
  rw [if_pos ⟨rfl, by rw [h]; rfl, hs⟩]
  simp [litA, h]

def r0 (ll : List (List Int)) : List Int := ll.headD []

theorem r0_get {ll : List (List Int)} (h : 0 < ll.length) : ll[0]? = some (r0 ll) := by
  cases ll with
  | nil => simp at h
  | cons x l => rfl

theorem lit2 {x y : AV} (hx : x.sc = true) (hy : y.sc = true) : litA 1 0 [(0, x), (1, y)] = some ([x, y].flatMap enV) := by
  have e : ∀ v : AV, v.sc = true → v.cells = [v] := by intro v h; cases v <;> first | rfl | cases h
  simp [litA, e x hx, e y hy, hx, hy, enV]

/-! ### Plans that are run -/
theorem Clone_int_ac (l : List Int) (v : AV) (h : AH) (hR : RdG 1 enI h v l) (hl : l.length ≤ 1048576) :
    AC Try.prog 64 [v] h (fun r h' => AL.Own h 1 enI h' r l) := by
  rcases hR.rd with rfl | ⟨b, o, c, rfl, g1, g2⟩
  · have hl0 : l = [] := by have := hR.len; simp [lenA] at this; exact List.length_eq_zero_iff.1 this.symm
    subst hl0
    refine e64 _ fun wf => ?_
    unfold c64
    refine LI_start wf ?_
    refine W ?_
    refine LS_snl rfl rfl true true (.inl ⟨rfl, rfl⟩) (.inl ⟨rfl, rfl⟩) ?_
    try (dsimp only [st, setL, AV.cells, List.set_cons_zero, List.set_cons_succ, List.drop_zero, List.drop_succ_cons, List.take_zero, List.take_succ_cons, Nat.zero_add, Nat.add_zero, Nat.reduceAdd, List.cons_append, List.nil_append, List.eraseIdx_cons_zero, List.eraseIdx_cons_succ])
    refine W ?_
    refine RET fun h' HL => ?_
    try dsimp only [oneA]
    exact AL.Own.nil HL.wf0 HL.le HL.wf _ _
  · refine e64 _ fun wf => ?_
    unfold c64
    refine LI_start wf ?_
    refine W ?_
    refine LS_snl rfl rfl false false (.inr ⟨_, _, _, _, rfl, rfl⟩) (.inl ⟨rfl, rfl⟩) ?_
    try (dsimp only [st, setL, AV.cells, List.set_cons_zero, List.set_cons_succ, List.drop_zero, List.drop_succ_cons, List.take_zero, List.take_succ_cons, Nat.zero_add, Nat.add_zero, Nat.reduceAdd, List.cons_append, List.nil_append, List.eraseIdx_cons_zero, List.eraseIdx_cons_succ])
    refine W ?_
    refine LS_lt ([] : List Int) rfl rfl (by decide) rfl rfl rfl rfl enI1 rfl rfl fun w1 h1 s1 => ?_
    try (dsimp only [st, setL, AV.cells, List.set_cons_zero, List.set_cons_succ, List.drop_zero, List.drop_succ_cons, List.take_zero, List.take_succ_cons, Nat.zero_add, Nat.add_zero, Nat.reduceAdd, List.cons_append, List.nil_append, List.eraseIdx_cons_zero, List.eraseIdx_cons_succ])
    refine W ?_
    refine LS_ap0 0 rfl (fun h' HL => hR.le HL.le) enI1 (by decide) (by simp; omega) (by simp; omega) rfl rfl rfl fun w2 hw2 sw2 => ?_
    try (dsimp only [st, setL, AV.cells, List.set_cons_zero, List.set_cons_succ, List.drop_zero, List.drop_succ_cons, List.take_zero, List.take_succ_cons, Nat.zero_add, Nat.add_zero, Nat.reduceAdd, List.cons_append, List.nil_append, List.eraseIdx_cons_zero, List.eraseIdx_cons_succ])
    refine W ?_
    refine RET fun h' HL => ?_
    try dsimp only [oneA]
    exact HL.ownI 0 rfl enI1 (by decide)

theorem l1Own_ac (l : List Int) (v : AV) (h : AH) (hR : Rd h v l) (hl : l.length ≤ 1048576) :
    AC Try.prog 59 [v] h (fun r h' => AL.Own h 1 enI h' r l) := by
  refine e59 _ fun wf => ?_
  unfold c59
  refine LI_start wf ?_
  refine W ?_
  refine LS_lt ([] : List Int) rfl rfl (by decide) rfl rfl rfl rfl enI1 rfl rfl fun w1 h1 s1 => ?_
  try (dsimp only [st, setL, AV.cells, List.set_cons_zero, List.set_cons_succ, List.drop_zero, List.drop_succ_cons, List.take_zero, List.take_succ_cons, Nat.zero_add, Nat.add_zero, Nat.reduceAdd, List.cons_append, List.nil_append, List.eraseIdx_cons_zero, List.eraseIdx_cons_succ])
  refine W ?_
  refine LS_ap0 0 rfl (fun h' HL => hR.le HL.le) enI1 (by decide) (by simp; omega) (by simp; omega) rfl rfl rfl fun w2 hw2 sw2 => ?_
  try (dsimp only [st, setL, AV.cells, List.set_cons_zero, List.set_cons_succ, List.drop_zero, List.drop_succ_cons, List.take_zero, List.take_succ_cons, Nat.zero_add, Nat.add_zero, Nat.reduceAdd, List.cons_append, List.nil_append, List.eraseIdx_cons_zero, List.eraseIdx_cons_succ])
  refine W ?_
  refine RET fun h' HL => ?_
  try dsimp only [oneA]
  exact HL.ownI 0 rfl enI1 (by decide)

def runS {α : Type} (F : α → α → α) (o : List α) (s : Int × Int) : List α := match o[s.1.toNat]?, o[s.2.toNat]? with
  | some x, some y => o ++ [F x y]
  | _, _ => o

def runM {α : Type} (F : α → α → α) (l : List (Int × Int)) (o : List α) : List α := l.foldl (runS F) o

def pickM {α : Type} (l : List α) (ix : List Int) : List α := ix.filterMap fun i => l[i.toNat]?

theorem pickM_len {α : Type} (l : List α) (ix : List Int) : (pickM l ix).length ≤ ix.length := List.length_filterMap_le _ _

theorem runM_cons {α : Type} (F : α → α → α) (s : Int × Int) (l : List (Int × Int)) (o : List α) : runM F (s :: l) o = runM F l (runS F o s) := rfl

theorem runM_len {α : Type} {F : α → α → α} {n : Int} (hn : 0 ≤ n) : ∀ (l : List (Int × Int)) (i : Nat) (o : List α), formedS n i l = true → (o.length : Int) = n + i → ((runM F l o).length : Int) = n + i + l.length
  | [], i, o, _, ho => by simpa [runM] using ho
  | s :: l, i, o, hf, ho => by
    have hs := formedS_get (i := 0) (s := s) hf rfl
    have h1 : s.1.toNat < o.length := by omega
    have h2 : s.2.toNat < o.length := by omega
    have e : runS F o s = o ++ [F o[s.1.toNat] o[s.2.toNat]] := by simp [runS, h1, h2]
    have hf' : formedS n (i + 1) l = true := by simp only [formedS, Bool.and_eq_true] at hf; exact hf.2
    have := runM_len (F := F) hn l (i + 1) (o ++ [F o[s.1.toNat] o[s.2.toNat]]) hf' (by simp; omega)
    rw [runM_cons, e, this]
    simp
    omega

theorem moPick_ac (l ix : List Int) (v w : AV) (h : AH) (hl : Rd h v l) (ho : Rd h w ix) (ho1 : ix.length ≤ 1048576) (hob : ∀ i ∈ ix, 0 ≤ i ∧ i < l.length) :
    AC Try.prog 68 [v, w] h (fun r h' => AL.Own h 1 enI h' r (pickM l ix)) := by
  refine e68 _ _ fun wf => ?_
  unfold c68
  refine LI_start wf ?_
  refine W ?_
  refine LIL_nl (k := 1) ?_
  refine LIL_ind (fun n a L => ∃ (i : Int) (u : AV), (∃ r : Nat → AV, a = [v, r 1, r 2, r 3, r 4, u, r 6, r 7, w, .i .i64 ix.length, .i .i64 i, r 11, r 12, r 13, r 14, r 15, r 16, r 17, r 18, r 19, r 20, r 21, r 22]) ∧ L = [.sl u 1 ((pickM l (ix.take i.toNat)).flatMap enI)] ∧ 0 ≤ i ∧ i + n = ix.length)
    ix.length ⟨0, _, exJ rfl, rfl, by omega, by omega⟩ ?_
  rintro n a L ⟨i, u, ⟨r, rfl⟩, rfl, h0, hn⟩ IH
  have hel := pickM_len l (ix.take i.toNat)
  rw [List.length_take] at hel
  refine W ?_
  (first | refine LS_gt rfl ?_ ?_ | refine LS_gf rfl ?_ ?_ | refine LI_cond rfl ?_ ?_) <;> intro hc <;> have hc' := hc <;> try simp only [decide_eq_true_eq, decide_eq_false_iff_not, Bool.not_eq_true', Bool.not_eq_false', Bool.not_eq_true, Bool.not_eq_false, beq_iff_eq, bne_iff_ne, beq_eq_false_iff_ne, bne_eq_false_iff_eq, Int.not_lt, Int.not_le, ge_iff_le, gt_iff_lt, not_and, ne_eq, Decidable.not_not] at hc'
  all_goals (try (dsimp only [st, setL, AV.cells, List.set_cons_zero, List.set_cons_succ, List.drop_zero, List.drop_succ_cons, List.take_zero, List.take_succ_cons, Nat.zero_add, Nat.add_zero, Nat.reduceAdd, List.cons_append, List.nil_append, List.eraseIdx_cons_zero, List.eraseIdx_cons_succ]))
  all_goals (refine W ?_)
  · obtain ⟨y, hy, hym, hd⟩ := drop_at (l := ix) h0 hc'
    have hyb := hob y hym
    have l1 : y.toNat < l.length := by omega
    have g1 : l[y.toNat]? = some l[y.toNat] := List.getElem?_eq_getElem l1
    have e : pickM l (ix.take (i + 1).toNat) = pickM l (ix.take i.toNat) ++ [l[y.toNat]] := by
      rw [toNat_succ h0, take_snoc hy, pickM, List.filterMap_append]
      simp [g1, pickM]
    refine LS_ix (fun h' HL => ho.le HL.le) enI1 hy h0 rfl rfl fun q1 o1 hrow1 => ?_
    try (dsimp only [st, setL, AV.cells, List.set_cons_zero, List.set_cons_succ, List.drop_zero, List.drop_succ_cons, List.take_zero, List.take_succ_cons, Nat.zero_add, Nat.add_zero, Nat.reduceAdd, List.cons_append, List.nil_append, List.eraseIdx_cons_zero, List.eraseIdx_cons_succ])
    refine W ?_
    refine LS_ix (fun h' HL => hl.le HL.le) enI1 g1 hyb.1 rfl rfl fun q2 o2 hrow2 => ?_
    try (dsimp only [st, setL, AV.cells, List.set_cons_zero, List.set_cons_succ, List.drop_zero, List.drop_succ_cons, List.take_zero, List.take_succ_cons, Nat.zero_add, Nat.add_zero, Nat.reduceAdd, List.cons_append, List.nil_append, List.eraseIdx_cons_zero, List.eraseIdx_cons_succ])
    refine W ?_
    refine LS_lt [l[y.toNat]] rfl rfl (by decide) rfl rfl rfl rfl enI1 rfl rfl fun lit4 hlit4 slit4 => ?_
    try (dsimp only [st, setL, AV.cells, List.set_cons_zero, List.set_cons_succ, List.drop_zero, List.drop_succ_cons, List.take_zero, List.take_succ_cons, Nat.zero_add, Nat.add_zero, Nat.reduceAdd, List.cons_append, List.nil_append, List.eraseIdx_cons_zero, List.eraseIdx_cons_succ])
    refine W ?_
    refine LS_ap 1 rfl (fun h' HL => HL.rdI 0 rfl enI1 (by decide)) enI1 (by decide) (by simp) (by simp; omega) (by simp; omega) rfl rfl rfl fun w5 hw5 sw5 => ?_
    try (dsimp only [st, setL, AV.cells, List.set_cons_zero, List.set_cons_succ, List.drop_zero, List.drop_succ_cons, List.take_zero, List.take_succ_cons, Nat.zero_add, Nat.add_zero, Nat.reduceAdd, List.cons_append, List.nil_append, List.eraseIdx_cons_zero, List.eraseIdx_cons_succ])
    refine W ?_
    refine LIL_drop 1 ?_
    refine IH (n - 1) _ _ (by omega) ⟨i + 1, _, exJ rfl, by rw [e]; rfl, by omega, by omega⟩
  · have ei : i.toNat = ix.length := by omega
    rw [ei, List.take_length]
    refine RET fun h' HL => ?_
    try dsimp only [oneA]
    exact HL.ownI 0 rfl enI1 (by decide)

theorem outs_in {α : Type} {F : α → α → α} {p : PlanM} (hk : planOk p = true) {l : List α} (hn : (l.length : Int) = p.n) : ∀ i ∈ p.outs, 0 ≤ i ∧ i < (runM F p.steps l).length := by
  obtain ⟨h1, h2, h3, h4, hf, h6⟩ := planOk_out hk
  intro i hi
  have := of_decide_eq_true (List.all_eq_true.1 h6 i hi)
  have e := runM_len (F := F) (by omega) p.steps 0 l hf (by omega)
  omega

theorem szPlanB_ac (p : PlanM) (v : AV) (k : Int) (h : AH) (hR : PlR h v p) (hk : 0 ≤ k) (hk1 : k ≤ 1048576) (hl : p.steps.length ≤ 9223372036854775807) (hl2 : p.outs.length ≤ 9223372036854775807) :
    AC Try.prog 26 [v, .i .i64 k] h (fun r h' => (∃ z, r = .i .i64 z ∧ z ≤ k ∧ (0 ≤ z → p.steps.length + p.outs.length ≤ k)) ∧ h.le h') := by
  obtain ⟨vs, vo, rfl, hs, ho⟩ := hR
  refine e26 _ _ fun wf => ?_
  unfold c26
  refine LI_start wf ?_
  refine W ?_
  refine LS_bxn rfl (sc_cons rfl (sc_cons (rd_sc hs) (sc_cons (rd_sc ho) rfl))) fun b1 => ?_
  try (dsimp only [st, setL, AV.cells, List.set_cons_zero, List.set_cons_succ, List.drop_zero, List.drop_succ_cons, List.take_zero, List.take_succ_cons, Nat.zero_add, Nat.add_zero, Nat.reduceAdd, List.cons_append, List.nil_append, List.eraseIdx_cons_zero, List.eraseIdx_cons_succ])
  refine W ?_
  refine LS_c0 (fun h' HL wf => szStepS_ac p.steps vs k h' (hs.le HL.le) hk hk1 hl) rfl rfl ?_
  try (dsimp only [st, setL, AV.cells, List.set_cons_zero, List.set_cons_succ, List.drop_zero, List.drop_succ_cons, List.take_zero, List.take_succ_cons, Nat.zero_add, Nat.add_zero, Nat.reduceAdd, List.cons_append, List.nil_append, List.eraseIdx_cons_zero, List.eraseIdx_cons_succ])
  refine W ?_
  (first | refine LS_gt rfl ?_ ?_ | refine LS_gf rfl ?_ ?_ | refine LI_cond rfl ?_ ?_) <;> intro hc <;> have hc' := hc <;> try simp only [decide_eq_true_eq, decide_eq_false_iff_not, Bool.not_eq_true', Bool.not_eq_false', Bool.not_eq_true, Bool.not_eq_false, beq_iff_eq, bne_iff_ne, beq_eq_false_iff_ne, bne_eq_false_iff_eq, Int.not_lt, Int.not_le, ge_iff_le, gt_iff_lt, not_and, ne_eq, Decidable.not_not] at hc'
  all_goals (try (dsimp only [st, setL, AV.cells, List.set_cons_zero, List.set_cons_succ, List.drop_zero, List.drop_succ_cons, List.take_zero, List.take_succ_cons, Nat.zero_add, Nat.add_zero, Nat.reduceAdd, List.cons_append, List.nil_append, List.eraseIdx_cons_zero, List.eraseIdx_cons_succ]))
  all_goals (refine W ?_)
  · refine RET fun h' HL => ?_
    try dsimp only [oneA]
    exact ⟨⟨_, rfl, by first | omega | (split <;> omega), fun e => by omega⟩, HL.le⟩
  · have hn : ¬ (k - (p.steps.length : Int) < 0) := fun e => by rw [if_pos e] at hc'; omega
    rw [if_neg hn]
    refine LS_c0' (fun h' HL wf => szIntS_ac p.outs vo (k - p.steps.length) h' (ho.le HL.le) (by omega) (by omega) hl2) rfl rfl ?_
    try (dsimp only [st, setL, AV.cells, List.set_cons_zero, List.set_cons_succ, List.drop_zero, List.drop_succ_cons, List.take_zero, List.take_succ_cons, Nat.zero_add, Nat.add_zero, Nat.reduceAdd, List.cons_append, List.nil_append, List.eraseIdx_cons_zero, List.eraseIdx_cons_succ])
    refine W ?_
    (first | refine LS_gt rfl ?_ ?_ | refine LS_gf rfl ?_ ?_ | refine LI_cond rfl ?_ ?_) <;> intro hc <;> have hc' := hc <;> try simp only [decide_eq_true_eq, decide_eq_false_iff_not, Bool.not_eq_true', Bool.not_eq_false', Bool.not_eq_true, Bool.not_eq_false, beq_iff_eq, bne_iff_ne, beq_eq_false_iff_ne, bne_eq_false_iff_eq, Int.not_lt, Int.not_le, ge_iff_le, gt_iff_lt, not_and, ne_eq, Decidable.not_not] at hc'
    all_goals (try (dsimp only [st, setL, AV.cells, List.set_cons_zero, List.set_cons_succ, List.drop_zero, List.drop_succ_cons, List.take_zero, List.take_succ_cons, Nat.zero_add, Nat.add_zero, Nat.reduceAdd, List.cons_append, List.nil_append, List.eraseIdx_cons_zero, List.eraseIdx_cons_succ]))
    all_goals (refine W ?_)
    · refine RET fun h' HL => ?_
      try dsimp only [oneA]
      exact ⟨⟨_, rfl, by first | omega | (split <;> omega), fun e => by omega⟩, HL.le⟩
    · have hn : ¬ (k - (p.steps.length : Int) - (p.outs.length : Int) < 0) := fun e => by rw [if_pos e] at hc'; omega
      refine RET fun h' HL => ?_
      try dsimp only [oneA]
      exact ⟨⟨_, rfl, by first | omega | (split <;> omega), fun e => by omega⟩, HL.le⟩

def TupQ (l : List MatM) (ok : Bool) (r : AV) (M : List It) : Prop := ∃ w, r = .tup [w, .b ok] ∧ lenA w = some l.length ∧ w.sc = true ∧ M = [.sl w 4 (l.flatMap enMat)]

theorem TupQ.none {h0 h : AH} {L : List It} (H : Loq h0 h L) : ∃ M, TupQ [] false (.tup [.ns, .b false]) M ∧ Loq h0 h M := ⟨_, ⟨.ns, rfl, rfl, rfl, rfl⟩, loq_ns (H.sub (List.nil_sublist _)) 4⟩

def zeroP : AV := .agg [.i .i64 0, .ns, .ns]

/-- A plan handed back, and whether. -/
def TupP (q : PlanM) (ok : Bool) (r : AV) (M : List It) : Prop := ∃ ws wo, r = .tup [.agg [.i .i64 q.n, ws, wo], .b ok] ∧ lenA ws = some q.steps.length ∧ ws.sc = true ∧ lenA wo = some q.outs.length ∧ wo.sc = true ∧ M = [.sl ws 2 (q.steps.flatMap enStep), .sl wo 1 (q.outs.flatMap enI)]

theorem TupP.none {h0 h : AH} {L : List It} (H : Loq h0 h L) : ∃ M, TupP emptyPlan false (.tup [zeroP, .b false]) M ∧ Loq h0 h M := ⟨_, ⟨.ns, .ns, rfl, rfl, rfl, rfl, rfl, rfl⟩, loq_ns (loq_ns (H.sub (List.nil_sublist _)) 1) 2⟩

theorem renamed_ac (l ix : List Int) (v w : AV) (h : AH) (hl : Rd h v l) (ho : Rd h w ix) (ho1 : ix.length ≤ 1048576) (hob : ∀ i ∈ ix, 0 ≤ i ∧ i < l.length) :
    AC Try.prog 71 [w, v] h (fun r h' => AL.Own h 1 enI h' r (pickM l ix)) := by
  refine e71 _ _ fun wf => ?_
  unfold c71
  refine LI_start wf ?_
  refine W ?_
  refine LS_lt ([] : List Int) rfl rfl (by decide) rfl rfl rfl rfl enI1 rfl rfl fun lit3 hlit3 slit3 => ?_
  try (dsimp only [st, setL, AV.cells, List.set_cons_zero, List.set_cons_succ, List.drop_zero, List.drop_succ_cons, List.take_zero, List.take_succ_cons, Nat.zero_add, Nat.add_zero, Nat.reduceAdd, List.cons_append, List.nil_append, List.eraseIdx_cons_zero, List.eraseIdx_cons_succ])
  refine W ?_
  refine LIL_ind (fun n a L => ∃ (i : Int) (u : AV), (∃ r : Nat → AV, a = [r 0, v, r 2, r 3, r 4, u, r 6, r 7, r 8, w, .i .i64 ix.length, .i .i64 i, r 12, r 13, r 14, r 15, r 16, r 17, r 18, r 19, r 20, r 21, r 22, r 23]) ∧ L = [.sl u 1 ((pickM l (ix.take i.toNat)).flatMap enI)] ∧ 0 ≤ i ∧ i + n = ix.length)
    ix.length ⟨0, _, exJ rfl, rfl, by omega, by omega⟩ ?_
  rintro n a L ⟨i, u, ⟨r, rfl⟩, rfl, h0, hn⟩ IH
  have hel := pickM_len l (ix.take i.toNat)
  rw [List.length_take] at hel
  refine W ?_
  (first | refine LS_gt rfl ?_ ?_ | refine LS_gf rfl ?_ ?_ | refine LI_cond rfl ?_ ?_) <;> intro hc <;> have hc' := hc <;> try simp only [decide_eq_true_eq, decide_eq_false_iff_not, Bool.not_eq_true', Bool.not_eq_false', Bool.not_eq_true, Bool.not_eq_false, beq_iff_eq, bne_iff_ne, beq_eq_false_iff_ne, bne_eq_false_iff_eq, Int.not_lt, Int.not_le, ge_iff_le, gt_iff_lt, not_and, ne_eq, Decidable.not_not] at hc'
  all_goals (try (dsimp only [st, setL, AV.cells, List.set_cons_zero, List.set_cons_succ, List.drop_zero, List.drop_succ_cons, List.take_zero, List.take_succ_cons, Nat.zero_add, Nat.add_zero, Nat.reduceAdd, List.cons_append, List.nil_append, List.eraseIdx_cons_zero, List.eraseIdx_cons_succ]))
  all_goals (refine W ?_)
  · obtain ⟨y, hy, hym, hd⟩ := drop_at (l := ix) h0 hc'
    have hyb := hob y hym
    have l1 : y.toNat < l.length := by omega
    have g1 : l[y.toNat]? = some l[y.toNat] := List.getElem?_eq_getElem l1
    have e : pickM l (ix.take (i + 1).toNat) = pickM l (ix.take i.toNat) ++ [l[y.toNat]] := by
      rw [toNat_succ h0, take_snoc hy, pickM, List.filterMap_append]
      simp [g1, pickM]
    refine LS_ix (fun h' HL => ho.le HL.le) enI1 hy h0 rfl rfl fun q1 o1 hrow1 => ?_
    try (dsimp only [st, setL, AV.cells, List.set_cons_zero, List.set_cons_succ, List.drop_zero, List.drop_succ_cons, List.take_zero, List.take_succ_cons, Nat.zero_add, Nat.add_zero, Nat.reduceAdd, List.cons_append, List.nil_append, List.eraseIdx_cons_zero, List.eraseIdx_cons_succ])
    refine W ?_
    refine LS_ix (fun h' HL => hl.le HL.le) enI1 g1 hyb.1 rfl rfl fun q2 o2 hrow2 => ?_
    try (dsimp only [st, setL, AV.cells, List.set_cons_zero, List.set_cons_succ, List.drop_zero, List.drop_succ_cons, List.take_zero, List.take_succ_cons, Nat.zero_add, Nat.add_zero, Nat.reduceAdd, List.cons_append, List.nil_append, List.eraseIdx_cons_zero, List.eraseIdx_cons_succ])
    refine W ?_
    refine LS_lt [l[y.toNat]] rfl rfl (by decide) rfl rfl rfl rfl enI1 rfl rfl fun lit4 hlit4 slit4 => ?_
    try (dsimp only [st, setL, AV.cells, List.set_cons_zero, List.set_cons_succ, List.drop_zero, List.drop_succ_cons, List.take_zero, List.take_succ_cons, Nat.zero_add, Nat.add_zero, Nat.reduceAdd, List.cons_append, List.nil_append, List.eraseIdx_cons_zero, List.eraseIdx_cons_succ])
    refine W ?_
    refine LS_ap 1 rfl (fun h' HL => HL.rdI 0 rfl enI1 (by decide)) enI1 (by decide) (by simp) (by simp; omega) (by simp; omega) rfl rfl rfl fun w5 hw5 sw5 => ?_
    try (dsimp only [st, setL, AV.cells, List.set_cons_zero, List.set_cons_succ, List.drop_zero, List.drop_succ_cons, List.take_zero, List.take_succ_cons, Nat.zero_add, Nat.add_zero, Nat.reduceAdd, List.cons_append, List.nil_append, List.eraseIdx_cons_zero, List.eraseIdx_cons_succ])
    refine W ?_
    refine LIL_drop 1 ?_
    refine IH (n - 1) _ _ (by omega) ⟨i + 1, _, exJ rfl, by rw [e]; rfl, by omega, by omega⟩
  · have ei : i.toNat = ix.length := by omega
    rw [ei, List.take_length]
    refine RET fun h' HL => ?_
    try dsimp only [oneA]
    exact HL.ownI 0 rfl enI1 (by decide)

theorem pickM_in {α : Type} {l : List α} {ix : List Int} {x : α} (h : x ∈ pickM l ix) : x ∈ l := by
  obtain ⟨i, _, hi⟩ := List.mem_filterMap.1 h
  exact List.mem_of_getElem? hi

def TupPP (q1 q2 : PlanM) (ok : Bool) (r : AV) (M : List It) : Prop := ∃ ws wo xs xo, r = .tup [.agg [.i .i64 q1.n, ws, wo], .agg [.i .i64 q2.n, xs, xo], .b ok] ∧ (lenA ws = some q1.steps.length ∧ ws.sc = true ∧ lenA wo = some q1.outs.length ∧ wo.sc = true) ∧ (lenA xs = some q2.steps.length ∧ xs.sc = true ∧ lenA xo = some q2.outs.length ∧ xo.sc = true) ∧ M = [.sl ws 2 (q1.steps.flatMap enStep), .sl wo 1 (q1.outs.flatMap enI), .sl xs 2 (q2.steps.flatMap enStep), .sl xo 1 (q2.outs.flatMap enI)]

theorem TupPP.none {h0 h : AH} {L : List It} (H : Loq h0 h L) : ∃ M, TupPP emptyPlan emptyPlan false (.tup [zeroP, zeroP, .b false]) M ∧ Loq h0 h M := ⟨_, ⟨.ns, .ns, .ns, .ns, rfl, ⟨rfl, rfl, rfl, rfl⟩, ⟨rfl, rfl, rfl, rfl⟩, rfl⟩, loq_ns (loq_ns (loq_ns (loq_ns (H.sub (List.nil_sublist _)) 1) 2) 1) 2⟩

theorem LS_hv {P : Program} {h0 : AH} {L : List It} {Q : Exit → List AV → List It → Prop} {a : List AV} {l : List IOp} {φ : Prop} (H1 : ∀ h, Loq h0 h L → φ) (H2 : φ → LS P h0 L l Q a) : LS P h0 L l Q a := by
  delta LS at H2 ⊢; exact fun h HL => H2 (H1 h HL) h HL

def TupS (l : List (List Int)) (ok : Bool) (r : AV) (M : List It) : Prop := ∃ w us, r = .tup [w, .b ok] ∧ us.length = l.length ∧ lenA w = some us.length ∧ w.sc = true ∧ M = ssI w us l

theorem TupS.none {h0 h : AH} {L : List It} (H : Loq h0 h L) : ∃ M, TupS [] false (.tup [.ns, .b false]) M ∧ Loq h0 h M := ⟨_, ⟨.ns, [], rfl, rfl, rfl, rfl, rfl⟩, loq_ns (H.sub (List.nil_sublist _)) 1⟩

def chB (lo m : Int) (c : List Int) : Prop := ∀ x ∈ c, lo ≤ x ∧ x ≤ m

theorem chB.snoc {lo m m' : Int} {c : List Int} {x : Int} (h : chB lo m c) (hm : m ≤ m') (h0 : lo ≤ x) (h1 : x ≤ m') : chB lo m' (c ++ [x]) := by
  intro y hy
  rcases List.mem_append.1 hy with hy | hy
  · have := h y hy; omega
  · rw [List.mem_singleton.1 hy]; omega

theorem chB.mono {lo m lo' m' : Int} {c : List Int} (h : chB lo m c) (h0 : lo' ≤ lo) (h1 : m ≤ m') : chB lo' m' c := fun x hx => by have := h x hx; omega

theorem chB.set {lo m : Int} {c : List Int} {z : Int} (h : chB lo m c) (i : Nat) (h0 : lo ≤ z) (h1 : z ≤ m) : chB lo m (c.set i z) := fun x hx => by
  rcases List.mem_or_eq_of_mem_set hx with hx | rfl
  · exact h x hx
  · exact ⟨h0, h1⟩

structure TS (ws0 : List (Int × List Int)) (s : List Int × List (Int × List Int)) (B : Nat) : Prop where
  nl : s.1.length ≤ B
  nb : ∀ n ∈ s.1, 0 ≤ n ∧ n ≤ 256
  pre : ∃ t, s.2 = ws0 ++ t
  wb : ∀ p ∈ s.2, 1 ≤ p.2.length ∧ p.2.length ≤ 14 ∧ ∀ x ∈ p.2, 0 ≤ x ∧ x ≤ 256

theorem TS.mono {ws0 : List (Int × List Int)} {s : List Int × List (Int × List Int)} {B B' : Nat} (H : TS ws0 s B) (h : B ≤ B') : TS ws0 s B' := ⟨Nat.le_trans H.nl h, H.nb, H.pre, H.wb⟩

/-! ### A slice of ints sorted by the library -/
open Go.Shelf in
def Try.mSort_ren : Go.Shelf.Ren := ⟨fun | 5 => 90 | 8 => 98 | 7 => 97 | 19 => 110 | 20 => 111 | 10 => 101 | 11 => 102 | 12 => 103 | 13 => 104 | 14 => 105 | 15 => 106 | 16 => 107 | 17 => 108 | 18 => 109 | 30 => 112 | 31 => 113 | 32 => 114 | 33 => 115 | 34 => 116 | 35 => 117 | 40 => 118 | n => n, fun | 23 => 31 | 25 => 3 | 3 => 3 | 32 => 97 | 22 => 31 | 0 => 0 | 44 => 111 | 46 => 61 | 4 => 4 | 36 => 105 | 35 => 104 | 41 => 41 | 5 => 5 | 9 => 9 | 53 => 113 | 57 => 117 | 63 => 119 | 64 => 120 | n => n, fun | n => n⟩
open Go.Shelf in
theorem Try.mSort : Go.Proofs.SlLaysM.n5 Try.prog Try.mSort_ren := {
  mixed := by kernel_rfl
  f5 := ⟨Try.f90.name, by decide, Try.func90.trans (congrArg some (by kernel_rfl))⟩
  f7 := ⟨Try.f97.name, by decide, Try.func97.trans (congrArg some (by kernel_rfl))⟩
  f8 := Try.func98.trans (congrArg some (by kernel_rfl))
  f10 := ⟨Try.f101.name, by decide, Try.func101.trans (congrArg some (by kernel_rfl))⟩
  f11 := ⟨Try.f102.name, by decide, Try.func102.trans (congrArg some (by kernel_rfl))⟩
  f12 := ⟨Try.f103.name, by decide, Try.func103.trans (congrArg some (by kernel_rfl))⟩
  f13 := ⟨Try.f104.name, by decide, Try.func104.trans (congrArg some (by kernel_rfl))⟩
  f14 := ⟨Try.f105.name, by decide, Try.func105.trans (congrArg some (by kernel_rfl))⟩
  f15 := ⟨Try.f106.name, by decide, Try.func106.trans (congrArg some (by kernel_rfl))⟩
  f16 := ⟨Try.f107.name, by decide, Try.func107.trans (congrArg some (by kernel_rfl))⟩
  f17 := ⟨Try.f108.name, by decide, Try.func108.trans (congrArg some (by kernel_rfl))⟩
  f18 := ⟨Try.f109.name, by decide, Try.func109.trans (congrArg some (by kernel_rfl))⟩
  f19 := Try.func110.trans (congrArg some (by kernel_rfl))
  f20 := Try.func111.trans (congrArg some (by kernel_rfl))
  f30 := ⟨Try.f112.name, by decide, Try.func112.trans (congrArg some (by kernel_rfl))⟩
  f31 := Try.func113.trans (congrArg some (by kernel_rfl))
  f32 := Try.func114.trans (congrArg some (by kernel_rfl))
  f33 := ⟨Try.f115.name, by decide, Try.func115.trans (congrArg some (by kernel_rfl))⟩
  f34 := ⟨Try.f116.name, by decide, Try.func116.trans (congrArg some (by kernel_rfl))⟩
  f35 := ⟨Try.f117.name, by decide, Try.func117.trans (congrArg some (by kernel_rfl))⟩
  f40 := ⟨Try.f118.name, by decide, Try.func118.trans (congrArg some (by kernel_rfl))⟩
  t0 := Try.underlying0
  a0 := Try.isAgg0
  z0 := Try.sizeOf0
  v0 := Try.zeroValue0
  t3 := Try.underlying3
  a3 := Try.isAgg3
  z3 := Try.sizeOf3
  v3 := Try.zeroValue3
  t4 := Try.underlying4
  a4 := Try.isAgg4
  z4 := Try.sizeOf4
  v4 := Try.zeroValue4
  t5 := Try.underlying5
  a5 := Try.isAgg5
  z5 := Try.sizeOf5
  v5 := Try.zeroValue5
  t9 := Try.underlying9
  a9 := Try.isAgg9
  z9 := Try.sizeOf9
  v9 := Try.zeroValue9
  t22 := Try.underlying31
  a22 := Try.isAgg31
  z22 := Try.sizeOf31
  v22 := Try.zeroValue31
  t23 := Try.underlying31
  a23 := Try.isAgg31
  z23 := Try.sizeOf31
  v23 := Try.zeroValue31
  t25 := Try.underlying3
  a25 := Try.isAgg3
  z25 := Try.sizeOf3
  v25 := Try.zeroValue3
  t32 := Try.underlying97
  a32 := Try.isAgg97
  z32 := Try.sizeOf97
  v32 := Try.zeroValue97
  t35 := Try.underlying104
  a35 := Try.isAgg104
  z35 := Try.sizeOf104
  v35 := Try.zeroValue104
  t36 := Try.underlying105
  a36 := Try.isAgg105
  z36 := Try.sizeOf105
  v36 := Try.zeroValue105
  t41 := Try.underlying41
  a41 := Try.isAgg41
  z41 := Try.sizeOf41
  v41 := Try.zeroValue41
  t44 := Try.underlying111
  a44 := Try.isAgg111
  z44 := Try.sizeOf111
  v44 := Try.zeroValue111
  t46 := Try.underlying61
  a46 := Try.isAgg61
  z46 := Try.sizeOf61
  v46 := Try.zeroValue61
  t53 := Try.underlying113
  a53 := Try.isAgg113
  z53 := Try.sizeOf113
  v53 := Try.zeroValue113
  t57 := Try.underlying117
  a57 := Try.isAgg117
  z57 := Try.sizeOf117
  v57 := Try.zeroValue117
  t63 := Try.underlying119
  a63 := Try.isAgg119
  z63 := Try.sizeOf119
  v63 := Try.zeroValue119
  t64 := Try.underlying120
  a64 := Try.isAgg120
  z64 := Try.sizeOf120
  v64 := Try.zeroValue120 }
theorem slSort_ac {h0 h : AH} {L : List It} {v : AV} {l : List Int} (HL : Loq h0 h (.sl v 1 (l.flatMap enI) :: L)) (hl : l.length < 4611686018427387904) :
    AC Try.prog 90 [v] h (fun r h' => ∃ M, (r = un ∧ M = .sl v 1 ((l.mergeSort fun x y => decide (x ≤ y)).flatMap enI) :: L) ∧ Loq h0 h' M) :=
  sort_ac ⟨_, Try.func90, by kernel_rfl, by kernel_rfl⟩ (fun blk off cap zs w hH hb hs => AnyM.slices_Sort_int Try.mSort blk off cap zs w hH hb hs) (fun p cap w => AnyM.slices_Sort_int_none Try.mSort p cap w) HL hl

/-! ### The ends of star chains: the laws -/
theorem nodup_len : ∀ (n : Nat) (l : List Nat), l.Nodup → (∀ j ∈ l, j < n) → l.length ≤ n
  | 0, l, _, h => by
    cases l with
    | nil => simp
    | cons x l => have := h x (by simp); omega
  | n + 1, l, hn, h => by
    by_cases hm : n ∈ l
    · have h1 := List.length_erase_of_mem hm
      have h2 := nodup_len n (l.erase n) (hn.erase n) (fun j hj => by
        have h3 := (List.Nodup.mem_erase_iff hn).1 hj
        have := h j h3.2
        have := h3.1
        omega)
      omega
    · have := nodup_len n l hn (fun j hj => by
        have h1 := h j hj
        have : j ≠ n := fun e => hm (e ▸ hj)
        omega)
      omega

/-! ### slices.Values, collected -/
open Go.Shelf in
def Try.mApp_ren : Go.Shelf.Ren := ⟨fun | 11 => 96 | n => n, fun | 24 => 31 | 26 => 3 | 28 => 85 | 0 => 0 | 33 => 65 | 4 => 4 | n => n, fun | n => n⟩
open Go.Shelf in
theorem Try.mApp : Go.Proofs.SlLaysZI.n11 Try.prog Try.mApp_ren := {
  mixed := by kernel_rfl
  f11 := ⟨Try.f96.name, by decide, Try.func96.trans (congrArg some (by kernel_rfl))⟩
  t0 := Try.underlying0
  a0 := Try.isAgg0
  z0 := Try.sizeOf0
  v0 := Try.zeroValue0
  t24 := Try.underlying31
  a24 := Try.isAgg31
  z24 := Try.sizeOf31
  v24 := Try.zeroValue31
  t26 := Try.underlying3
  a26 := Try.isAgg3
  z26 := Try.sizeOf3
  v26 := Try.zeroValue3
  t28 := Try.underlying85
  a28 := Try.isAgg85
  z28 := Try.sizeOf85
  v28 := Try.zeroValue85
  i26 := by kernel_rfl }
def uptoV (zs : List Int) (k : Nat) : List Int := (List.range k).map fun j => zs[j]?.getD 0

theorem uptoV_succ (zs : List Int) (k : Nat) : uptoV zs (k + 1) = uptoV zs k ++ [zs[k]?.getD 0] := by simp [uptoV, List.range_succ]

theorem uptoV_length (zs : List Int) (k : Nat) : (uptoV zs k).length = k := by simp [uptoV]

theorem uptoV_all (zs : List Int) : uptoV zs zs.length = zs := by
  apply List.ext_getElem
  · simp [uptoV]
  · intro i h1 h2
    simp [uptoV, h2]
open Go.RowKit Go.Shelf Go.Sort Go.Maps Go.Proofs in

attribute [local go_sem] Oper.semAt_some in
set_option maxHeartbeats 2000000 in
theorem values1_in (F : Fence) (n : Nat) (h7 : F.fn 91) (hro : F.round = none) (hn : 1 ≤ n) (l Bs bo n₀ b off len cap : Nat) (zs : List Int) (hreach : len * 8 ≤ 140737488351232) (hb : 0 < len → b < n₀) (J : List Int → World → Prop) (w0 : World) (hJb : ∀ pre W, J pre W → Below n₀ w0 W)
    (hY : ∀ pre x W, J pre W → pre.length < len → YieldAt F (n - 1) Try.prog l #[.int .i64 x] W fun e W' => e = .returned (.bool true) ∧ J (pre ++ [x]) W' ∧ KeepsWalks W W')
    (W : World) (hBs : W.cell? ⟨Bs, bo, none⟩ = some (.slice (some ⟨b, off, none⟩) len cap)) (hc : ∀ j, j < len → w0.cell? ⟨b, off + j, none⟩ = some (.int .i64 (zs[j]?.getD 0))) (h0 : J [] W) :
    CallsIn F n Try.prog 91 #[.func (.yield l) #[] #[], .pointer (some ⟨Bs, bo, none⟩)] W fun e W' => (∃ v, e = .returned v) ∧ J (uptoV zs len) W' := by
  refine callsIn_of_wp Try.func91 rfl h7 ?_ hro
  simp only [Try.ntmps91, List.size_toArray, List.length_cons, List.length_nil, Nat.reduceAdd, Nat.reduceSub, Array.replicate_succ, Array.replicate_zero, List.push_toArray, List.append_toArray, List.nil_append, List.cons_append]
  gi_wp2
  gi_loopw [7] (fun i wr => ∃ k : Nat, k ≤ len ∧ i = .int .i64 k ∧ J (uptoV zs k) wr)
    (fun i _ => len - (intOf i).toNat)
  case atStart => exact ⟨0, Nat.zero_le _, rfl, h0⟩
  case round =>
    obtain ⟨k, hk, rfl, hJs⟩ := hrel
    have hnx := hJb _ _ hJs
    have hcx : k < len → wr.cell? ⟨b, off + k, none⟩ = some (.int .i64 (zs[k]?.getD 0)) := fun h => (hnx.cell (p := ⟨b, off + k, none⟩) (hb (by omega))).trans (hc k h)
    by_cases hlt : k < len
    · obtain ⟨fn, tmps, assign, body, hy, hR⟩ := hY _ (zs[k]?.getD 0) wr hJs (by rw [uptoV_length]; exact hlt)
      have hcx' := hcx hlt
      gi_wp2
      refine hR.mono ?_
      rintro e W3 ⟨rfl, hJ3, _⟩
      gi_wp2
      go_roundw
      case rel => exact ⟨k + 1, by omega, by simp, by rw [uptoV_succ]; exact hJ3⟩
      case measure => simp [intOf]; omega
    · obtain rfl : k = len := by omega
      gi_wp2
      go_end0
      exact ⟨⟨_, rfl⟩, hJs⟩
open Go.RowKit Go.Shelf Go.Sort Go.Maps Go.Proofs in

attribute [local go_sem] Oper.semAt_some in
set_option maxHeartbeats 2000000 in
theorem values1_nil_in (F : Fence) (n : Nat) (h7 : F.fn 91) (hro : F.round = none) (l Bs bo : Nat) (p : Option Addr) (cap : Nat) (J : List Int → World → Prop) (W : World) (hBs : W.cell? ⟨Bs, bo, none⟩ = some (.slice p 0 cap)) (h0 : J [] W) :
    CallsIn F n Try.prog 91 #[.func (.yield l) #[] #[], .pointer (some ⟨Bs, bo, none⟩)] W fun e W' => (∃ v, e = .returned v) ∧ J [] W' := by
  refine callsIn_of_wp Try.func91 rfl h7 ?_ hro
  simp only [Try.ntmps91, List.size_toArray, List.length_cons, List.length_nil, Nat.reduceAdd, Nat.reduceSub, Array.replicate_succ, Array.replicate_zero, List.push_toArray, List.append_toArray, List.nil_append, List.cons_append]
  gi_wp2
  gi_loopw [7] (fun i wr => i = .int .i64 0 ∧ J [] wr) (fun _ _ => 0)
  case atStart => exact ⟨rfl, h0⟩
  case round =>
    obtain ⟨rfl, hJs⟩ := hrel
    gi_wp2
    go_end0
    exact ⟨⟨_, rfl⟩, hJs⟩
open Go.RowKit Go.Shelf Go.Maps Go.Proofs in

theorem appendSeq_ac {h : AH} {b o : Nat} {v : AV} {l : List Int} (wf : h.wf) (hcell : h.cell b o = some v) (hR : Rd h v l) (hl : l.length ≤ 1048576) :
    AC Try.prog 96 [.ns, .f 91 [.p b o]] h (fun r h' => AL.Own h 1 enI h' r l) := by
  refine AC_mk Try.func96 (by kernel_rfl) (by kernel_rfl) fun base w0 ι w cargs hrep hv => ?_
  obtain ⟨pl, hp, hca⟩ : ∃ pl : AL.Place, ι.bl[b]? = some pl ∧ cargs = #[.slice none 0 0, .func (.func 91) #[] #[.pointer (some ⟨pl.c, pl.o + o, none⟩)]] := by
    cases cargs with
    | mk cl =>
      simp only at hv
      cases hv with
      | cons h1 t =>
        cases h1
        cases t with
        | cons h2 t =>
          cases t
          cases h2 with
          | f _ _ vs h3 =>
            cases vs with
            | mk vl =>
              simp only at h3
              cases h3 with
              | cons h4 t4 =>
                cases t4
                cases h4 with
                | p _ _ pl e => exact ⟨pl, e, rfl⟩
  subst hca
  obtain ⟨row, hrow, hro⟩ : ∃ row, h.cs[b]? = some row ∧ row[o]? = some v := by
    unfold AH.cell at hcell
    cases hr : h.cs[b]? with
    | none => rw [hr] at hcell; simp at hcell
    | some row => rw [hr] at hcell; exact ⟨row, rfl, hcell⟩
  obtain ⟨cv, hcc, hcv⟩ := hrep.cell b pl row hp hrow o v hro
  have hIn : ∀ (J : List Int → World → Prop) (lp : Nat) (W : World), Below w.heap.size w W → (∀ pre W, J pre W → Below w.heap.size w W) → (∀ pre x W1, J pre W1 → pre.length < l.length → YieldAt Fence.wide (5 - 1 - 1) Try.prog lp #[.int .i64 x] W1 fun e W' => e = .returned (.bool true) ∧ J (pre ++ [x]) W' ∧ KeepsWalks W1 W') → J [] W →
      CallsIn Fence.wide (5 - 1) Try.prog 91 #[.func (.yield lp) #[] #[], .pointer (some ⟨pl.c, pl.o + o, none⟩)] W fun e W' => (∃ v, e = .returned v) ∧ J l W' := by
    intro J lp W hb hJb hY h0
    have hc' : W.cell? ⟨pl.c, pl.o + o, none⟩ = some cv := (hb.cell (p := ⟨pl.c, pl.o + o, none⟩) (hrep.inb b pl hp)).trans hcc
    have hln := hR.len
    rcases hR.rd with rfl | ⟨b2, o2, c2, rfl, hg1, hg2⟩
    · have : l = [] := by simp [lenA] at hln; exact List.eq_nil_of_length_eq_zero hln.symm
      subst this
      cases hcv
      exact values1_nil_in Fence.wide _ trivial rfl lp _ _ _ _ J W hc' h0
    · cases hcv with
      | sl _ _ _ _ pl2 x cap hp2 hcap hcl hx =>
        have key : ∀ j, j < l.length → x.block < w.heap.size ∧ w.cell? ⟨x.block, x.off + j, none⟩ = some (.int .i64 (l[j]?.getD 0)) ∧ x = ⟨x.block, x.off, none⟩ := by
          intro j hj
          rcases hx with hx | ⟨rfl, _⟩
          · omega
          · obtain ⟨row2, e1, e2, e3, e4⟩ := row_get hg1
            have hlf : (l.flatMap enI).length = l.length := by rw [flatMap_len enI1]; omega
            have h5 : row2[o2 + j]? = some (.i .i64 (l[j]?.getD 0)) := by
              have h6 : (l.flatMap enI)[j]? = some (.i .i64 (l[j]?.getD 0)) := by rw [flatMap_enI]; simp [hj]
              rw [e3, List.getElem?_take_of_lt (by omega), List.getElem?_drop] at h6
              exact h6
            obtain ⟨cv2, h7, h8⟩ := hrep.cell b2 pl2 row2 hp2 e1 (o2 + j) _ h5
            cases h8
            exact ⟨hrep.inb b2 pl2 hp2, by rw [show pl2.o + o2 + j = pl2.o + (o2 + j) by omega]; exact h7, rfl⟩
        by_cases hl0 : l = []
        · subst hl0
          exact values1_nil_in Fence.wide _ trivial rfl lp _ _ _ _ J W hc' h0
        · have hpos := List.length_pos_iff.2 hl0
          obtain ⟨_, _, ex⟩ := key 0 hpos
          rw [ex] at hc'
          have := values1_in Fence.wide (5 - 1) trivial rfl (by decide) lp pl.c (pl.o + o) w.heap.size x.block x.off l.length cap l (by omega) (fun _ => (key 0 hpos).1) J w hJb hY W hc' (fun j hj => (key j hj).2.1) h0
          rw [uptoV_all] at this
          exact this
  have H := appendSeqJ_in Try.mApp Fence.wide 5 trivial rfl (by decide) 91 #[.pointer (some ⟨pl.c, pl.o + o, none⟩)] trivial (enters_of Try.func91 (by kernel_rfl) rfl) (fun ss => ss = l) l.length (by unfold maxLen; omega) (by omega) w
    (fun fn lp Bs D W hb hY h0 => (hIn _ lp W hb (fun pre W h => h.below) hY h0).mono fun e W' ⟨he, hj⟩ => ⟨he, l, rfl, hj⟩)
  refine (callsIn_wide.1 H).mono ?_
  rintro e w' ⟨rv, ss, rfl, rfl, hrow, hnil, hb⟩
  have hrep' := hrep.below_keep hb
  rcases hrow.2 with ⟨rfl, hz⟩ | ⟨gb, cap, cur, rfl, hbase, hgb, r1, r2, r3, r4⟩
  · have : ss = [] := List.eq_nil_of_length_eq_zero hz
    subst this
    exact ⟨.ns, _, ι, h, rfl, .refl ι, hrep', .ns, AL.Own.nil wf (.refl h) wf _ _⟩
  · have hfl : (ss.flatMap enI).length = ss.length := by rw [flatMap_len enI1]; omega
    refine ⟨.sl h.cs.length 0 ss.length false, _, ι.add ⟨gb, 0, cur.size, 1⟩, h.new 1 (ss.flatMap enI), rfl, ι.le_add _, hrep'.addOwn hgb (by have := hrep.base_le; omega) (fun b pl e => by have := hrep.inb b pl e; omega) ?_ ?_ ?_, .sl _ _ _ _ ⟨gb, 0, cur.size, 1⟩ ⟨gb, 0, none⟩ cap ?_ r1 (by simp) (.inr ⟨rfl, by simp only; omega⟩), AL.Own.fresh wf (.refl h) wf enI1 ss false rfl rfl⟩
    · rw [hfl, flatMap_enI]
      have e : cur.toList.take ss.length = ss.map (Value.int .i64) := by
        have := r4
        rw [Nat.mul_one] at this
        exact this
      rw [e]
      exact vrels_ints _ ss
    · rw [hfl]; omega
    · rw [flatMap_enI]; simp [AV.sc]
    · rw [← hrep.lb]; exact get_new _ _

/-! ### Orders: slices.Sorted(slices.Values(list)) -/
theorem sortedV_ac {h : AH} {b o : Nat} {v : AV} {l : List Int} (hcell : h.cell b o = some v) (hR : Rd h v l) (hl : l.length ≤ 1048576) :
    AC Try.prog 74 [.f 91 [.p b o]] h (fun r h' => AL.Own h 1 enI h' r (l.mergeSort fun x y => decide (x ≤ y))) := by
  have hcol : ∀ h', h.le h' → h'.wf → AC Try.prog 89 [.f 91 [.p b o]] h' (fun r h2 => AL.Own h' 1 enI h2 r l) := by
    intro h' hle wf'
    have hc' : h'.cell b o = some v := hle.cell hcell
    refine e89 _ fun wf => ?_
    unfold c89
    refine LI_start wf ?_
    refine W ?_
    refine LS_co (fun h2 HL wf2 => appendSeq_ac wf2 (HL.le.cell hc') ((hR.le hle).le HL.le) hl) enI1 rfl rfl fun w lw sw => ?_
    try (dsimp only [st, setL, AV.cells, List.set_cons_zero, List.set_cons_succ, List.drop_zero, List.drop_succ_cons, List.take_zero, List.take_succ_cons, Nat.zero_add, Nat.add_zero, Nat.reduceAdd, List.cons_append, List.nil_append, List.eraseIdx_cons_zero, List.eraseIdx_cons_succ])
    refine W ?_
    refine RET fun h' HL => ?_
    try dsimp only [oneA]
    exact HL.ownI 0 rfl enI1 (by decide)
  refine e74 _ fun wf => ?_
  unfold c74
  refine LI_start wf ?_
  refine W ?_
  refine LS_co (fun h2 HL wf2 => hcol h2 HL.le wf2) enI1 rfl rfl fun w lw sw => ?_
  try (dsimp only [st, setL, AV.cells, List.set_cons_zero, List.set_cons_succ, List.drop_zero, List.drop_succ_cons, List.take_zero, List.take_succ_cons, Nat.zero_add, Nat.add_zero, Nat.reduceAdd, List.cons_append, List.nil_append, List.eraseIdx_cons_zero, List.eraseIdx_cons_succ])
  refine W ?_
  refine LS_cm (.refl _) (fun h' HL' wf => slSort_ac HL' (by omega)) rfl rfl ?_
  try (dsimp only [st, setL, AV.cells, List.set_cons_zero, List.set_cons_succ, List.drop_zero, List.drop_succ_cons, List.take_zero, List.take_succ_cons, Nat.zero_add, Nat.add_zero, Nat.reduceAdd, List.cons_append, List.nil_append, List.eraseIdx_cons_zero, List.eraseIdx_cons_succ])
  refine W ?_
  rintro _ _ ⟨rfl, rfl⟩
  try (dsimp only [st, setL, AV.cells, List.set_cons_zero, List.set_cons_succ, List.drop_zero, List.drop_succ_cons, List.take_zero, List.take_succ_cons, Nat.zero_add, Nat.add_zero, Nat.reduceAdd, List.cons_append, List.nil_append, List.eraseIdx_cons_zero, List.eraseIdx_cons_succ])
  refine W ?_
  refine RET fun h' HL => ?_
  try dsimp only [oneA]
  exact HL.ownI 0 rfl enI1 (by decide)

theorem valuesV_ac {h : AH} {v : AV} {l : List Int} (hR : Rd h v l) :
    AC Try.prog 75 [v] h (fun r h' => ∃ M, (∃ b, r = .f 91 [.p b 0] ∧ M = [.pt b [v]]) ∧ Loq h h' M) := by
  have sv := rd_sc hR
  refine e75 _ fun wf => ?_
  unfold c75
  refine LI_start wf ?_
  refine W ?_
  refine LS_bx1 rfl sv fun b => ?_
  try (dsimp only [st, setL, AV.cells, List.set_cons_zero, List.set_cons_succ, List.drop_zero, List.drop_succ_cons, List.take_zero, List.take_succ_cons, Nat.zero_add, Nat.add_zero, Nat.reduceAdd, List.cons_append, List.nil_append, List.eraseIdx_cons_zero, List.eraseIdx_cons_succ])
  refine W ?_
  refine RET fun h' HL => ?_
  try dsimp only [oneA]
  exact ⟨_, ⟨b, rfl, rfl⟩, HL⟩

theorem eqV_ac (l m : List Int) (v u : AV) (h : AH) (hv : Rd h v l) (hu : Rd h u m) (hl : l.length ≤ 4611686018427387904) (hm : m.length ≤ 4611686018427387904) :
    AC Try.prog 44 [v, u] h (fun r h' => r = .b (decide (l = m)) ∧ h.le h') := by
  have hvl := hv.len
  have hul := hu.len
  refine e44 _ _ fun wf => ?_
  unfold c44
  refine LI_start wf ?_
  refine W ?_
  by_cases hlm : l.length = m.length
  · first | (refine LS_gtnH rfl (by simp; omega) ?_; intro hg; try (dsimp only [st, setL, AV.cells, List.set_cons_zero, List.set_cons_succ, List.drop_zero, List.drop_succ_cons, List.take_zero, List.take_succ_cons, Nat.zero_add, Nat.add_zero, Nat.reduceAdd, List.cons_append, List.nil_append, List.eraseIdx_cons_zero, List.eraseIdx_cons_succ])) | (refine LS_gfnH rfl (by simp; omega) ?_; intro hg; try (dsimp only [st, setL, AV.cells, List.set_cons_zero, List.set_cons_succ, List.drop_zero, List.drop_succ_cons, List.take_zero, List.take_succ_cons, Nat.zero_add, Nat.add_zero, Nat.reduceAdd, List.cons_append, List.nil_append, List.eraseIdx_cons_zero, List.eraseIdx_cons_succ])) | (refine LI_cond_fH rfl (by simp; omega) ?_; intro hg)
    refine W ?_
    refine LIL_ind (fun k a L => ∃ (i : Int), (∃ r : Nat → AV, a = [v, u, r 2, r 3, .b false, r 5, r 6, r 7, r 8, r 9, r 10, r 11, .i .i64 l.length, .i .i64 i, r 14, r 15, r 16, r 17, r 18, r 19, r 20, r 21, r 22, r 23, r 24, r 25]) ∧ L = [] ∧ 0 ≤ i ∧ i + k = l.length ∧ decide (l = m) = decide (l.drop i.toNat = m.drop i.toNat))
      l.length ⟨0, exJ rfl, rfl, by omega, by omega, rfl⟩ ?_
    rintro k a L ⟨i, ⟨r, rfl⟩, rfl, h0, hk, hd⟩ IH
    refine W ?_
    (first | refine LS_gt rfl ?_ ?_ | refine LS_gf rfl ?_ ?_ | refine LI_cond rfl ?_ ?_) <;> intro hc <;> have hc' := hc <;> try simp only [decide_eq_true_eq, decide_eq_false_iff_not, Bool.not_eq_true', Bool.not_eq_false', Bool.not_eq_true, Bool.not_eq_false, beq_iff_eq, bne_iff_ne, beq_eq_false_iff_ne, bne_eq_false_iff_eq, Int.not_lt, Int.not_le, ge_iff_le, gt_iff_lt, not_and, ne_eq, Decidable.not_not] at hc'
    all_goals (try (dsimp only [st, setL, AV.cells, List.set_cons_zero, List.set_cons_succ, List.drop_zero, List.drop_succ_cons, List.take_zero, List.take_succ_cons, Nat.zero_add, Nat.add_zero, Nat.reduceAdd, List.cons_append, List.nil_append, List.eraseIdx_cons_zero, List.eraseIdx_cons_succ]))
    all_goals (refine W ?_)
    · obtain ⟨x, hx, _, hdx⟩ := drop_at (l := l) h0 hc'
      obtain ⟨y, hy, _, hdy⟩ := drop_at (l := m) h0 (by omega)
      rw [hdx, hdy] at hd
      refine dz44_0 ?_
      refine WX ?_
      refine W ?_
      refine LX_ix (fun h' HL => hv.le HL.le) enI1 hx h0 rfl rfl noG fun q1 o1 hrow1 => ?_
      try (dsimp only [st, setL, AV.cells, List.set_cons_zero, List.set_cons_succ, List.drop_zero, List.drop_succ_cons, List.take_zero, List.take_succ_cons, Nat.zero_add, Nat.add_zero, Nat.reduceAdd, List.cons_append, List.nil_append, List.eraseIdx_cons_zero, List.eraseIdx_cons_succ])
      refine WX ?_
      refine W ?_
      refine LX_ix (fun h' HL => hu.le HL.le) enI1 hy h0 rfl rfl noG fun q2 o2 hrow2 => ?_
      try (dsimp only [st, setL, AV.cells, List.set_cons_zero, List.set_cons_succ, List.drop_zero, List.drop_succ_cons, List.take_zero, List.take_succ_cons, Nat.zero_add, Nat.add_zero, Nat.reduceAdd, List.cons_append, List.nil_append, List.eraseIdx_cons_zero, List.eraseIdx_cons_succ])
      refine WX ?_
      refine W ?_
      (first | refine LS_gt rfl ?_ ?_ | refine LS_gf rfl ?_ ?_ | refine LI_cond rfl ?_ ?_) <;> intro hc <;> have hc' := hc <;> try simp only [decide_eq_true_eq, decide_eq_false_iff_not, Bool.not_eq_true', Bool.not_eq_false', Bool.not_eq_true, Bool.not_eq_false, beq_iff_eq, bne_iff_ne, beq_eq_false_iff_ne, bne_eq_false_iff_eq, Int.not_lt, Int.not_le, ge_iff_le, gt_iff_lt, not_and, ne_eq, Decidable.not_not] at hc'
      all_goals (try (dsimp only [st, setL, AV.cells, List.set_cons_zero, List.set_cons_succ, List.drop_zero, List.drop_succ_cons, List.take_zero, List.take_succ_cons, Nat.zero_add, Nat.add_zero, Nat.reduceAdd, List.cons_append, List.nil_append, List.eraseIdx_cons_zero, List.eraseIdx_cons_succ]))
      all_goals (refine W ?_)
      · have hne : x ≠ y := by simpa using hc
        refine RET fun h' HL => ?_
        try dsimp only [oneA]
        exact ⟨by rw [hd, decide_eq_false (by simp [hne])], HL.le⟩
      · have he : x = y := by simpa using hc
        refine IH (k - 1) _ _ (by omega) ⟨i + 1, exJ rfl, rfl, by omega, by omega, by rw [toNat_succ h0, hd]; simp [he]⟩
    · rw [List.drop_eq_nil_of_le (by omega), List.drop_eq_nil_of_le (by omega)] at hd
      refine RET fun h' HL => ?_
      try dsimp only [oneA]
      exact ⟨by rw [hd]; rfl, HL.le⟩
  · first | (refine LS_gyH rfl (by simp; omega) ?_; intro hg) | (refine LI_cond_tH rfl (by simp; omega) ?_; intro hg)
    refine W ?_
    refine RET fun h' HL => ?_
    try dsimp only [oneA]
    exact ⟨by rw [decide_eq_false (fun e => hlm (by rw [e]))], HL.le⟩

def isOrd (l : List Int) (n : Int) : Bool := decide ((l.mergeSort fun x y => decide (x ≤ y)) = iotaI n.toNat)

theorem isOrder_ac (l : List Int) (n : Int) (v : AV) (h : AH) (hR : Rd h v l) (hl : l.length ≤ 1048576) (h0 : 0 ≤ n) (h1 : n ≤ 1048576) :
    AC Try.prog 50 [v, .i .i64 n] h (fun r h' => r = .b (isOrd l n) ∧ h.le h') := by
  refine e50 _ _ fun wf => ?_
  unfold c50
  refine LI_start wf ?_
  refine W ?_
  refine LS_c1 (fun h' HL wf => valuesV_ac (hR.le HL.le)) rfl rfl ?_
  try (dsimp only [st, setL, AV.cells, List.set_cons_zero, List.set_cons_succ, List.drop_zero, List.drop_succ_cons, List.take_zero, List.take_succ_cons, Nat.zero_add, Nat.add_zero, Nat.reduceAdd, List.cons_append, List.nil_append, List.eraseIdx_cons_zero, List.eraseIdx_cons_succ])
  refine W ?_
  rintro _ _ ⟨b, rfl, rfl⟩
  try (dsimp only [st, setL, AV.cells, List.set_cons_zero, List.set_cons_succ, List.drop_zero, List.drop_succ_cons, List.take_zero, List.take_succ_cons, Nat.zero_add, Nat.add_zero, Nat.reduceAdd, List.cons_append, List.nil_append, List.eraseIdx_cons_zero, List.eraseIdx_cons_succ])
  refine W ?_
  refine LS_co (fun h' HL wf => sortedV_ac (HL.cellP 0 rfl rfl) (hR.le HL.le) hl) enI1 rfl rfl fun w lw sw => ?_
  try (dsimp only [st, setL, AV.cells, List.set_cons_zero, List.set_cons_succ, List.drop_zero, List.drop_succ_cons, List.take_zero, List.take_succ_cons, Nat.zero_add, Nat.add_zero, Nat.reduceAdd, List.cons_append, List.nil_append, List.eraseIdx_cons_zero, List.eraseIdx_cons_succ])
  refine W ?_
  refine LS_co (fun h' HL wf => firsts_ac n h' wf h0 h1) enI1 rfl rfl fun w2 lw2 sw2 => ?_
  try (dsimp only [st, setL, AV.cells, List.set_cons_zero, List.set_cons_succ, List.drop_zero, List.drop_succ_cons, List.take_zero, List.take_succ_cons, Nat.zero_add, Nat.add_zero, Nat.reduceAdd, List.cons_append, List.nil_append, List.eraseIdx_cons_zero, List.eraseIdx_cons_succ])
  refine W ?_
  refine LS_c0 (fun h' HL wf => eqV_ac (l.mergeSort fun x y => decide (x ≤ y)) (iotaI n.toNat) w w2 h' (HL.rdI 1 rfl enI1 (by decide)) (HL.rdI 0 rfl enI1 (by decide)) (by rw [List.length_mergeSort]; omega) (by simp [iotaI]; omega)) rfl rfl ?_
  try (dsimp only [st, setL, AV.cells, List.set_cons_zero, List.set_cons_succ, List.drop_zero, List.drop_succ_cons, List.take_zero, List.take_succ_cons, Nat.zero_add, Nat.add_zero, Nat.reduceAdd, List.cons_append, List.nil_append, List.eraseIdx_cons_zero, List.eraseIdx_cons_succ])
  refine W ?_
  refine RET fun h' HL => ?_
  try dsimp only [oneA]
  exact ⟨rfl, HL.le⟩

/-! ### Permutations: plain laws -/
def permB (l : List Int) : Bool := decide (l.Nodup ∧ ∀ x ∈ l, 0 ≤ x ∧ x < l.length)

theorem iota_sorted : ∀ k : Nat, (iotaI k).Pairwise (· ≤ ·) := by
  intro k
  unfold iotaI
  rw [List.pairwise_map]
  exact List.pairwise_lt_range.imp fun h => Int.ofNat_le.2 (Nat.le_of_lt h)

theorem isOrd_perm (l : List Int) : isOrd l l.length = decide (l.Perm (iotaI l.length)) := by
  unfold isOrd
  have hp := List.mergeSort_perm l (fun x y => decide (x ≤ y))
  have hs : (l.mergeSort fun x y => decide (x ≤ y)).Pairwise (· ≤ ·) := by
    have := List.pairwise_mergeSort (le := fun x y : Int => decide (x ≤ y)) (fun a b c h1 h2 => by simp at *; omega) (fun a b => by simp; omega) l
    exact this.imp (by intro a b h; simpa using h)
  rw [Int.toNat_natCast]
  by_cases h : l.Perm (iotaI l.length)
  · rw [decide_eq_true h, decide_eq_true]
    exact List.Perm.eq_of_pairwise (fun a b _ _ h1 h2 => by omega) hs (iota_sorted _) (hp.trans h)
  · rw [decide_eq_false h, decide_eq_false]
    intro e
    exact h (hp.symm.trans (e ▸ List.Perm.refl _))

theorem nodup_lenI (n : Nat) (l : List Int) (h1 : l.Nodup) (h2 : ∀ x ∈ l, 0 ≤ x ∧ x < n) : l.length ≤ n := by
  have := nodup_len n (l.map Int.toNat) (by
    unfold List.Nodup
    rw [List.pairwise_map]
    exact List.Pairwise.imp_of_mem (fun {a b} ha hb hne e => hne (by have := h2 a ha; have := h2 b hb; omega)) h1) (fun j hj => by
    obtain ⟨x, hx, rfl⟩ := List.mem_map.1 hj
    have := h2 x hx
    omega)
  simpa using this

theorem iota_mem (k : Nat) (x : Int) : x ∈ iotaI k ↔ 0 ≤ x ∧ x < k := by
  unfold iotaI
  rw [List.mem_map]
  constructor
  · rintro ⟨j, hj, rfl⟩
    have := List.mem_range.1 hj
    exact ⟨Int.natCast_nonneg _, Int.ofNat_lt.2 this⟩
  · intro h
    exact ⟨x.toNat, List.mem_range.2 (by omega), by show ((x.toNat : Nat) : Int) = x; omega⟩

theorem iota_nodup (k : Nat) : (iotaI k).Nodup := by
  unfold iotaI List.Nodup
  rw [List.pairwise_map]
  exact List.nodup_range.imp fun h e => h (Int.ofNat.inj e)

theorem permB_iff (l : List Int) : permB l = decide (l.Perm (iotaI l.length)) := by
  unfold permB
  by_cases h : l.Nodup ∧ ∀ x ∈ l, 0 ≤ x ∧ x < l.length
  · rw [decide_eq_true h, decide_eq_true]
    refine (List.perm_ext_iff_of_nodup h.1 (iota_nodup _)).2 fun x => ?_
    rw [iota_mem]
    refine ⟨h.2 x, fun hx => Classical.byContradiction fun hn => ?_⟩
    have := nodup_lenI l.length (x :: l) (List.nodup_cons.2 ⟨hn, h.1⟩) (fun y hy => by
      rcases List.mem_cons.1 hy with rfl | hy
      · exact hx
      · exact h.2 y hy)
    simp only [List.length_cons] at this
    omega
  · rw [decide_eq_false h, decide_eq_false]
    intro hp
    exact h ⟨hp.nodup_iff.2 (iota_nodup _), fun x hx => (iota_mem _ _).1 (hp.mem_iff.1 hx)⟩

theorem isOrd_permB (l : List Int) : isOrd l l.length = permB l := by rw [isOrd_perm, permB_iff]

/-! ### Permutations: both checks -/
def isPerm (l : List Int) : Bool := decide (1 ≤ l.length ∧ l.length ≤ 8) && permB l

theorem implIP_ac (l : List Int) (v : AV) (h : AH) (hR : Rd h v l) (hl : l.length ≤ 1048576) : AC Try.prog 20 [v] h (fun r h' => r = .b (isPerm l) ∧ h.le h') := by
  have hln := hR.len
  refine e20 _ fun wf => ?_
  unfold c20
  refine LI_start wf ?_
  refine W ?_
  refine LS_c0' (fun h' HL wf => in_ac l.length 1 8 h') rfl rfl ?_
  try (dsimp only [st, setL, AV.cells, List.set_cons_zero, List.set_cons_succ, List.drop_zero, List.drop_succ_cons, List.take_zero, List.take_succ_cons, Nat.zero_add, Nat.add_zero, Nat.reduceAdd, List.cons_append, List.nil_append, List.eraseIdx_cons_zero, List.eraseIdx_cons_succ])
  refine W ?_
  (first | refine LS_gt rfl ?_ ?_ | refine LS_gf rfl ?_ ?_ | refine LI_cond rfl ?_ ?_) <;> intro hc <;> have hc' := hc <;> try simp only [decide_eq_true_eq, decide_eq_false_iff_not, Bool.not_eq_true', Bool.not_eq_false', Bool.not_eq_true, Bool.not_eq_false, beq_iff_eq, bne_iff_ne, beq_eq_false_iff_ne, bne_eq_false_iff_eq, Int.not_lt, Int.not_le, ge_iff_le, gt_iff_lt, not_and, ne_eq, Decidable.not_not] at hc'
  all_goals (try (dsimp only [st, setL, AV.cells, List.set_cons_zero, List.set_cons_succ, List.drop_zero, List.drop_succ_cons, List.take_zero, List.take_succ_cons, Nat.zero_add, Nat.add_zero, Nat.reduceAdd, List.cons_append, List.nil_append, List.eraseIdx_cons_zero, List.eraseIdx_cons_succ]))
  all_goals (refine W ?_)
  · have hn : 1 ≤ l.length ∧ l.length ≤ 8 := by simp at hc; omega
    refine LS_c0 (fun h' HL wf => by have H := isOrder_ac l l.length v h' (hR.le HL.le) hl (by omega) (by omega); rw [isOrd_permB] at H; exact H) rfl rfl ?_
    try (dsimp only [st, setL, AV.cells, List.set_cons_zero, List.set_cons_succ, List.drop_zero, List.drop_succ_cons, List.take_zero, List.take_succ_cons, Nat.zero_add, Nat.add_zero, Nat.reduceAdd, List.cons_append, List.nil_append, List.eraseIdx_cons_zero, List.eraseIdx_cons_succ])
    refine W ?_
    refine RET fun h' HL => ?_
    try dsimp only [oneA]
    exact ⟨by rw [isPerm, decide_eq_true hn, Bool.true_and], HL.le⟩
  · have hn : ¬ (1 ≤ l.length ∧ l.length ≤ 8) := by simp at hc; omega
    refine RET fun h' HL => ?_
    try dsimp only [oneA]
    exact ⟨by rw [isPerm, decide_eq_false hn, Bool.false_and], HL.le⟩

/-! ### Permutations: the reference's check -/
def goodTo (l : List Int) (k : Nat) : Prop := (l.take k).Nodup ∧ ∀ x ∈ l.take k, 0 ≤ x ∧ x < l.length

theorem goodTo_succ {l : List Int} {k : Nat} {x : Int} (hx : l[k]? = some x) : goodTo l (k + 1) ↔ goodTo l k ∧ (0 ≤ x ∧ x ≤ l.length - 1) ∧ x ∉ l.take k := by
  unfold goodTo
  rw [take_snoc hx, List.nodup_append]
  constructor
  · rintro ⟨⟨h1, _, h3⟩, h4⟩
    have hb := h4 x (by simp)
    exact ⟨⟨h1, fun y hy => h4 y (by simp [hy])⟩, by omega, fun hm => h3 x hm x (by simp) rfl⟩
  · rintro ⟨⟨h1, h2⟩, h3, h4⟩
    refine ⟨⟨h1, by simp, fun y hy z hz e => ?_⟩, fun y hy => ?_⟩
    · rw [List.mem_singleton.1 hz] at e; exact h4 (e ▸ hy)
    · rcases List.mem_append.1 hy with hy | hy
      · exact h2 y hy
      · rw [List.mem_singleton.1 hy]; omega

theorem goodTo_le {l : List Int} {k : Nat} (h : goodTo l l.length) : goodTo l k :=
  ⟨by have := h.1; rw [List.take_length] at this; exact this.sublist (List.take_sublist _ _), fun x hx => by have := h.2 x; rw [List.take_length] at this; exact this (List.mem_of_mem_take hx)⟩

theorem goodTo_permB (l : List Int) : permB l = true ↔ goodTo l l.length := by
  unfold permB goodTo
  rw [List.take_length, decide_eq_true_iff]

theorem isPerm_bad {l : List Int} (h : ¬ goodTo l l.length) : isPerm l = false := by
  rw [isPerm, Bool.eq_false_iff.2 (fun e => h ((goodTo_permB l).1 e)), Bool.and_false]

theorem moPerm_ac (l : List Int) (v : AV) (h : AH) (hR : Rd h v l) (hl : l.length ≤ 1048576) : AC Try.prog 67 [v] h (fun r h' => r = .b (isPerm l) ∧ h.le h') := by
  have hln := hR.len
  refine e67 _ fun wf => ?_
  unfold c67
  refine LI_start wf ?_
  refine W ?_
  refine LIL_ind (fun m a L => ∃ (i : Int), (∃ r : Nat → AV, a = [v, r 1, r 2, r 3, r 4, v, .i .i64 l.length, .i .i64 i, r 8, r 9, r 10, r 11, r 12, r 13, r 14, r 15, r 16, r 17, r 18, r 19, r 20, r 21, r 22, r 23, r 24, r 25, r 26, r 27, r 28]) ∧ L = [] ∧ 0 ≤ i ∧ i + m = l.length ∧ goodTo l i.toNat)
    l.length ⟨0, exJ rfl, rfl, by omega, by omega, by simp [goodTo]⟩ ?_
  rintro m a L ⟨i, ⟨r, rfl⟩, rfl, h0, hk, hg0⟩ IH
  refine W ?_
  (first | refine LS_gt rfl ?_ ?_ | refine LS_gf rfl ?_ ?_ | refine LI_cond rfl ?_ ?_) <;> intro hc <;> have hc' := hc <;> try simp only [decide_eq_true_eq, decide_eq_false_iff_not, Bool.not_eq_true', Bool.not_eq_false', Bool.not_eq_true, Bool.not_eq_false, beq_iff_eq, bne_iff_ne, beq_eq_false_iff_ne, bne_eq_false_iff_eq, Int.not_lt, Int.not_le, ge_iff_le, gt_iff_lt, not_and, ne_eq, Decidable.not_not] at hc'
  all_goals (try (dsimp only [st, setL, AV.cells, List.set_cons_zero, List.set_cons_succ, List.drop_zero, List.drop_succ_cons, List.take_zero, List.take_succ_cons, Nat.zero_add, Nat.add_zero, Nat.reduceAdd, List.cons_append, List.nil_append, List.eraseIdx_cons_zero, List.eraseIdx_cons_succ]))
  all_goals (refine W ?_)
  · obtain ⟨x, hx, hxm, _⟩ := drop_at (l := l) h0 hc'
    have hgs := goodTo_succ hx
    refine LS_ix (fun h' HL => hR.le HL.le) enI1 hx h0 rfl rfl fun q1 o1 hrow1 => ?_
    try (dsimp only [st, setL, AV.cells, List.set_cons_zero, List.set_cons_succ, List.drop_zero, List.drop_succ_cons, List.take_zero, List.take_succ_cons, Nat.zero_add, Nat.add_zero, Nat.reduceAdd, List.cons_append, List.nil_append, List.eraseIdx_cons_zero, List.eraseIdx_cons_succ])
    refine W ?_
    refine LS_c0' (fun h' HL wf => l1In_ac x 0 ((l.length : Int) - 1) h') rfl rfl ?_
    try (dsimp only [st, setL, AV.cells, List.set_cons_zero, List.set_cons_succ, List.drop_zero, List.drop_succ_cons, List.take_zero, List.take_succ_cons, Nat.zero_add, Nat.add_zero, Nat.reduceAdd, List.cons_append, List.nil_append, List.eraseIdx_cons_zero, List.eraseIdx_cons_succ])
    refine W ?_
    (first | refine LS_gt rfl ?_ ?_ | refine LS_gf rfl ?_ ?_ | refine LI_cond rfl ?_ ?_) <;> intro hc <;> have hc' := hc <;> try simp only [decide_eq_true_eq, decide_eq_false_iff_not, Bool.not_eq_true', Bool.not_eq_false', Bool.not_eq_true, Bool.not_eq_false, beq_iff_eq, bne_iff_ne, beq_eq_false_iff_ne, bne_eq_false_iff_eq, Int.not_lt, Int.not_le, ge_iff_le, gt_iff_lt, not_and, ne_eq, Decidable.not_not] at hc'
    all_goals (try (dsimp only [st, setL, AV.cells, List.set_cons_zero, List.set_cons_succ, List.drop_zero, List.drop_succ_cons, List.take_zero, List.take_succ_cons, Nat.zero_add, Nat.add_zero, Nat.reduceAdd, List.cons_append, List.nil_append, List.eraseIdx_cons_zero, List.eraseIdx_cons_succ]))
    all_goals (refine W ?_)
    · have hin := of_decide_eq_true (nf hc)
      refine LS_sz (u := i.toNat) (q := 0) (fun h' HL => hR.le HL.le) enI1 (.inl ⟨rfl, rfl⟩) (.inr ⟨_, _, _, rfl, rfl, h0, rfl⟩) (by omega) (by omega) rfl fun w1 hw1 sw1 rw1 => ?_
      try (dsimp only [st, setL, AV.cells, List.set_cons_zero, List.set_cons_succ, List.drop_zero, List.drop_succ_cons, List.take_zero, List.take_succ_cons, Nat.zero_add, Nat.add_zero, Nat.reduceAdd, List.cons_append, List.nil_append, List.eraseIdx_cons_zero, List.eraseIdx_cons_succ])
      refine W ?_
      refine LS_c0 (fun h' HL wf => l1Has_ac (l.take i.toNat) w1 x h' (by have := rw1 h' (hR.le HL.le); rwa [List.drop_zero] at this) (by simp; omega)) rfl rfl ?_
      try (dsimp only [st, setL, AV.cells, List.set_cons_zero, List.set_cons_succ, List.drop_zero, List.drop_succ_cons, List.take_zero, List.take_succ_cons, Nat.zero_add, Nat.add_zero, Nat.reduceAdd, List.cons_append, List.nil_append, List.eraseIdx_cons_zero, List.eraseIdx_cons_succ])
      refine W ?_
      (first | refine LS_gt rfl ?_ ?_ | refine LS_gf rfl ?_ ?_ | refine LI_cond rfl ?_ ?_) <;> intro hc <;> have hc' := hc <;> try simp only [decide_eq_true_eq, decide_eq_false_iff_not, Bool.not_eq_true', Bool.not_eq_false', Bool.not_eq_true, Bool.not_eq_false, beq_iff_eq, bne_iff_ne, beq_eq_false_iff_ne, bne_eq_false_iff_eq, Int.not_lt, Int.not_le, ge_iff_le, gt_iff_lt, not_and, ne_eq, Decidable.not_not] at hc'
      all_goals (try (dsimp only [st, setL, AV.cells, List.set_cons_zero, List.set_cons_succ, List.drop_zero, List.drop_succ_cons, List.take_zero, List.take_succ_cons, Nat.zero_add, Nat.add_zero, Nat.reduceAdd, List.cons_append, List.nil_append, List.eraseIdx_cons_zero, List.eraseIdx_cons_succ]))
      all_goals (refine W ?_)
      · have hmem : x ∈ l.take i.toNat := by obtain ⟨y, hy, e⟩ := List.any_eq_true.1 hc; rw [← eq_of_beq e]; exact hy
        rw [isPerm_bad fun hg => ((hgs.1 (goodTo_le hg)).2.2 hmem)]
        refine RET fun h' HL => ?_
        try dsimp only [oneA]
        exact ⟨rfl, HL.le⟩
      · have hmem : x ∉ l.take i.toNat := fun hm => by have := List.any_eq_false.1 hc x hm; simp at this
        refine IH (m - 1) _ _ (by omega) ⟨i + 1, exJ rfl, rfl, by omega, by omega, by rw [toNat_succ h0]; exact hgs.2 ⟨hg0, hin, hmem⟩⟩
    · have hin := of_decide_eq_false (nt hc)
      rw [isPerm_bad fun hg => (hin (hgs.1 (goodTo_le hg)).2.1)]
      refine RET fun h' HL => ?_
      try dsimp only [oneA]
      exact ⟨rfl, HL.le⟩
  · have ei : i.toNat = l.length := by omega
    rw [ei] at hg0
    refine LS_c0' (fun h' HL wf => l1In_ac l.length 1 8 h') rfl rfl ?_
    try (dsimp only [st, setL, AV.cells, List.set_cons_zero, List.set_cons_succ, List.drop_zero, List.drop_succ_cons, List.take_zero, List.take_succ_cons, Nat.zero_add, Nat.add_zero, Nat.reduceAdd, List.cons_append, List.nil_append, List.eraseIdx_cons_zero, List.eraseIdx_cons_succ])
    refine W ?_
    refine RET fun h' HL => ?_
    try dsimp only [oneA]
    refine ⟨?_, HL.le⟩
    rw [isPerm, (goodTo_permB l).2 hg0, Bool.and_true]
    congr 1
    by_cases h8 : 1 ≤ l.length ∧ l.length ≤ 8
    · rw [decide_eq_true h8, decide_eq_true (by omega)]
    · rw [decide_eq_false h8, decide_eq_false (by omega)]

theorem specIP_ac (l : List Int) (v : AV) (h : AH) (hR : Rd h v l) (hl : l.length ≤ 1048576) : AC Try.prog 34 [v] h (fun r h' => r = .b (isPerm l) ∧ h.le h') := by
  have hln := hR.len
  refine e34 _ fun wf => ?_
  unfold c34
  refine LI_start wf ?_
  refine W ?_
  (first | refine LS_gt rfl ?_ ?_ | refine LS_gf rfl ?_ ?_ | refine LI_cond rfl ?_ ?_) <;> intro hc <;> have hc' := hc <;> try simp only [decide_eq_true_eq, decide_eq_false_iff_not, Bool.not_eq_true', Bool.not_eq_false', Bool.not_eq_true, Bool.not_eq_false, beq_iff_eq, bne_iff_ne, beq_eq_false_iff_ne, bne_eq_false_iff_eq, Int.not_lt, Int.not_le, ge_iff_le, gt_iff_lt, not_and, ne_eq, Decidable.not_not] at hc'
  all_goals (try (dsimp only [st, setL, AV.cells, List.set_cons_zero, List.set_cons_succ, List.drop_zero, List.drop_succ_cons, List.take_zero, List.take_succ_cons, Nat.zero_add, Nat.add_zero, Nat.reduceAdd, List.cons_append, List.nil_append, List.eraseIdx_cons_zero, List.eraseIdx_cons_succ]))
  all_goals (refine W ?_)
  · refine LS_c0 (fun h' HL wf => moPerm_ac l v h' (hR.le HL.le) hl) rfl rfl ?_
    try (dsimp only [st, setL, AV.cells, List.set_cons_zero, List.set_cons_succ, List.drop_zero, List.drop_succ_cons, List.take_zero, List.take_succ_cons, Nat.zero_add, Nat.add_zero, Nat.reduceAdd, List.cons_append, List.nil_append, List.eraseIdx_cons_zero, List.eraseIdx_cons_succ])
    refine W ?_
    refine RET fun h' HL => ?_
    try dsimp only [oneA]
    exact ⟨rfl, HL.le⟩
  · refine RET fun h' HL => ?_
    try dsimp only [oneA]
    refine ⟨?_, HL.le⟩
    rw [isPerm, decide_eq_false (fun e => by have := e.2; omega), Bool.false_and]

/-! ### Permutations: products, powers and orders as plain law -/
def appI (l : List Int) (x : Int) : Int := l[x.toNat]?.getD 0

theorem pick_mapI {l ix : List Int} (h : ∀ i ∈ ix, 0 ≤ i ∧ i < l.length) : pickM l ix = ix.map (appI l) := by
  induction ix with
  | nil => rfl
  | cons i ix ih =>
    have hi := h i (by simp)
    have : i.toNat < l.length := by omega
    rw [pickM, List.filterMap_cons, List.getElem?_eq_getElem this, List.map_cons, ← ih fun j hj => h j (by simp [hj])]
    simp only [appI, List.getElem?_eq_getElem this, Option.getD_some]
    rfl

theorem permB_out {l : List Int} (h : permB l = true) : l.Nodup ∧ ∀ x ∈ l, 0 ≤ x ∧ x < l.length := of_decide_eq_true h

theorem app_in {l : List Int} (h : permB l = true) {x : Int} (h0 : 0 ≤ x) (h1 : x < l.length) : 0 ≤ appI l x ∧ appI l x < l.length := by
  have : x.toNat < l.length := by omega
  unfold appI
  rw [List.getElem?_eq_getElem this]
  exact (permB_out h).2 _ (List.getElem_mem this)

theorem app_inj {l : List Int} (h : permB l = true) {x y : Int} (h0 : 0 ≤ x) (h1 : x < l.length) (g0 : 0 ≤ y) (g1 : y < l.length) (e : appI l x = appI l y) : x = y := by
  have hx : x.toNat < l.length := by omega
  have hy : y.toNat < l.length := by omega
  unfold appI at e
  rw [List.getElem?_eq_getElem hx, List.getElem?_eq_getElem hy] at e
  have := (List.getElem_inj (permB_out h).1).1 e
  omega

/-- The product of two permutations is one. -/
theorem pick_perm {a b : List Int} (ha : permB a = true) (hb : permB b = true) (hl : a.length = b.length) : permB (pickM b a) = true ∧ (pickM b a).length = a.length := by
  have hm : ∀ i ∈ a, 0 ≤ i ∧ i < b.length := by rw [← hl]; exact (permB_out ha).2
  rw [pick_mapI hm]
  refine ⟨decide_eq_true ⟨?_, ?_⟩, by simp⟩
  · unfold List.Nodup
    rw [List.pairwise_map]
    exact List.Pairwise.imp_of_mem (fun {x y} hx hy hne e => hne (app_inj hb (hm x hx).1 (hm x hx).2 (hm y hy).1 (hm y hy).2 e)) (permB_out ha).1
  · intro x hx
    obtain ⟨y, hy, rfl⟩ := List.mem_map.1 hx
    have := app_in hb (hm y hy).1 (hm y hy).2
    rw [List.length_map, hl]
    exact this

/-! ### Permutations: products and powers, walked -/
theorem then_ac (a b : List Int) (v w : AV) (h : AH) (ha : Rd h v a) (hb : Rd h w b) (hl : a.length ≤ 1048576) (hob : ∀ i ∈ a, 0 ≤ i ∧ i < b.length) :
    AC Try.prog 45 [v, w] h (fun r h' => AL.Own h 1 enI h' r (pickM b a)) := by
  refine e45 _ _ fun wf => ?_
  unfold c45
  refine LI_start wf ?_
  refine W ?_
  refine LS_co (fun h' HL wf => renamed_ac b a w v h' (hb.le HL.le) (ha.le HL.le) hl hob) enI1 rfl rfl fun w1 lw sw => ?_
  try (dsimp only [st, setL, AV.cells, List.set_cons_zero, List.set_cons_succ, List.drop_zero, List.drop_succ_cons, List.take_zero, List.take_succ_cons, Nat.zero_add, Nat.add_zero, Nat.reduceAdd, List.cons_append, List.nil_append, List.eraseIdx_cons_zero, List.eraseIdx_cons_succ])
  refine W ?_
  refine RET fun h' HL => ?_
  try dsimp only [oneA]
  exact HL.ownI 0 rfl enI1 (by decide)

theorem moThen_ac (a b : List Int) (v w : AV) (h : AH) (ha : Rd h v a) (hb : Rd h w b) (hl : a.length ≤ 1048576) (hob : ∀ i ∈ a, 0 ≤ i ∧ i < b.length) :
    AC Try.prog 42 [v, w] h (fun r h' => AL.Own h 1 enI h' r (pickM b a)) := by
  refine e42 _ _ fun wf => ?_
  unfold c42
  refine LI_start wf ?_
  refine W ?_
  refine LS_co (fun h' HL wf => moPick_ac b a w v h' (hb.le HL.le) (ha.le HL.le) hl hob) enI1 rfl rfl fun w1 lw sw => ?_
  try (dsimp only [st, setL, AV.cells, List.set_cons_zero, List.set_cons_succ, List.drop_zero, List.drop_succ_cons, List.take_zero, List.take_succ_cons, Nat.zero_add, Nat.add_zero, Nat.reduceAdd, List.cons_append, List.nil_append, List.eraseIdx_cons_zero, List.eraseIdx_cons_succ])
  refine W ?_
  refine RET fun h' HL => ?_
  try dsimp only [oneA]
  exact HL.ownI 0 rfl enI1 (by decide)

theorem isPerm_out {l : List Int} (h : isPerm l = true) : 1 ≤ l.length ∧ l.length ≤ 8 ∧ permB l = true := by
  simp only [isPerm, Bool.and_eq_true, decide_eq_true_eq] at h
  exact ⟨h.1.1, h.1.2, h.2⟩

/-! ### Rows of rows -/
theorem rowsI_out : ∀ (us : List AV) (ll : List (List Int)), ∀ x ∈ rowsI us ll, ∃ (i : Nat) (u : AV) (l : List Int), us[i]? = some u ∧ ll[i]? = some l ∧ x = It.sl u 1 (l.flatMap enI)
  | u :: us, l :: ll, x, hx => by
    simp only [rowsI, List.mem_cons] at hx
    rcases hx with rfl | hx
    · exact ⟨0, u, l, rfl, rfl, rfl⟩
    · obtain ⟨i, u', l', h1, h2, h3⟩ := rowsI_out us ll x hx
      exact ⟨i + 1, u', l', h1, h2, h3⟩
  | [], _, x, hx => by simp [rowsI] at hx
  | _ :: _, [], x, hx => by simp [rowsI] at hx

theorem rowsI_pw : ∀ (us : List AV) (ll : List (List Int)), (∀ (i j : Nat) (u u' : AV) (l l' : List Int), us[i]? = some u → us[j]? = some u' → ll[i]? = some l → ll[j]? = some l' → i < j → It.ap (.sl u 1 (l.flatMap enI)) (.sl u' 1 (l'.flatMap enI))) → (rowsI us ll).Pairwise It.ap
  | u :: us, l :: ll, H => by
    simp only [rowsI]
    refine List.pairwise_cons.2 ⟨fun x hx => ?_, rowsI_pw us ll fun i j u u' l l' h1 h2 h3 h4 hlt => H (i + 1) (j + 1) u u' l l' h1 h2 h3 h4 (by omega)⟩
    obtain ⟨i, u', l', h1, h2, rfl⟩ := rowsI_out us ll x hx
    exact H 0 (i + 1) u u' l l' rfl h1 rfl h2 (by omega)
  | [], _, _ => by simp [rowsI]
  | _ :: _, [], _ => by simp [rowsI]

/-! ### Lists of permutations that commute -/
theorem ownSS_loq {h0 h : AH} {v : AV} {ll : List (List Int)} {us : List AV} (H : OwnSS h0 h v ll us) : Loq h0 h (ssI v us ll) := by
  have hl := H.len
  have hin : ∀ x ∈ rowsI us ll, ∃ (i : Nat) (u : AV) (l : List Int), us[i]? = some u ∧ ll[i]? = some l ∧ x = .sl u 1 (l.flatMap enI) := rowsI_out us ll
  refine ⟨H.outer.wf0, H.outer.le, H.outer.wf, fun x hx => ?_, ?_⟩
  · simp only [ssI, List.append_nil, List.mem_cons] at hx
    rcases hx with rfl | hx
    · exact H.outer.it enV1
    · obtain ⟨i, u, l, h1, h2, rfl⟩ := hin x hx
      exact (H.row i u l h1 h2).it enI1
  · have ap_of : ∀ {u u' : AV} {k k' : Nat} {c c' : List AV}, apartV u u' → (It.sl u k c).ap (.sl u' k' c') := fun {u u' k k' c c'} hap => .sl fun b e e' => by
      cases u <;> simp only [It.blk, reduceCtorEq] at e
      cases u' <;> simp only [It.blk, reduceCtorEq] at e'
      cases e; cases e'
      exact hap _ _ _ _ _ _ _ _ rfl rfl rfl
    simp only [ssI, List.append_nil]
    refine List.pairwise_cons.2 ⟨fun x hx => ?_, rowsI_pw us ll fun i j u u' l l' h1 h2 h3 h4 hlt => ap_of (H.ap i j u u' h1 h2 (by omega))⟩
    obtain ⟨i, u, l, h1, h2, rfl⟩ := hin x hx
    exact ap_of (H.apo i u h1)

theorem toIntSSI_ac (ll : List (List Int)) (v : AV) (vs : List AV) (h : AH) (hR : RdSS h v ll vs) (hll : ll.length ≤ 1048576) (hl : ∀ l ∈ ll, l.length ≤ 1048576) :
    AC Try.prog 12 [v] h (fun r h' => ∃ M, (∃ us, us.length = ll.length ∧ lenA r = some us.length ∧ r.sc = true ∧ M = ssI r us ll) ∧ Loq h h' M) :=
  (toIntSS_own ll v vs h hR hll hl).mono fun r h' ⟨us, H⟩ => ⟨_, ⟨us, H.len, H.outer.rd.len, rd_sc H.outer.rd, rfl⟩, ownSS_loq H⟩

theorem ssI_rd {h0 h : AH} {v : AV} {us : List AV} {ll : List (List Int)} (A B : List It) (H : Loq h0 h (A ++ (ssI v us ll ++ B))) (hl : us.length = ll.length) : RdSS h v ll us :=
  H.ss (List.mem_append_right _ (List.mem_append_left _ List.mem_cons_self)) (fun x hx => List.mem_append_right _ (List.mem_append_left _ (List.mem_cons_of_mem _ (List.mem_append_left _ hx)))) hl

def alikeB (ll : List (List Int)) : Bool := ll.all fun l => isPerm l && decide (l.length = (r0 ll).length)

def alikeOk (ll : List (List Int)) : Bool := decide (ll.length ≤ 6) && alikeB ll

theorem alike_1_ac (u : AV) (ll : List (List Int)) (v : AV) (vs : List AV) (l : List Int) (b : Nat) (h : AH) (hb : h.cell b 0 = some v) (hR : RdSS h v ll vs) (hu : Rd h u l) (hl : 0 < ll.length) (hll : l.length ≤ 1048576) :
    AC Try.prog 70 [u, .p b 0] h (fun r h' => r = .b (!(isPerm l && decide (l.length = (r0 ll).length))) ∧ h.le h') := by
  obtain ⟨u0, hu0, hr0⟩ := hR.at_ (r0_get hl)
  have hul := hu.len
  have hu0l := hr0.len
  refine e70 _ _ fun wf => ?_
  unfold c70
  refine LI_start wf ?_
  refine W ?_
  refine LS_c0 (fun h' HL wf => implIP_ac l u h' (hu.le HL.le) hll) rfl rfl ?_
  try (dsimp only [st, setL, AV.cells, List.set_cons_zero, List.set_cons_succ, List.drop_zero, List.drop_succ_cons, List.take_zero, List.take_succ_cons, Nat.zero_add, Nat.add_zero, Nat.reduceAdd, List.cons_append, List.nil_append, List.eraseIdx_cons_zero, List.eraseIdx_cons_succ])
  refine W ?_
  (first | refine LS_gt rfl ?_ ?_ | refine LS_gf rfl ?_ ?_ | refine LI_cond rfl ?_ ?_) <;> intro hc <;> have hc' := hc <;> try simp only [decide_eq_true_eq, decide_eq_false_iff_not, Bool.not_eq_true', Bool.not_eq_false', Bool.not_eq_true, Bool.not_eq_false, beq_iff_eq, bne_iff_ne, beq_eq_false_iff_ne, bne_eq_false_iff_eq, Int.not_lt, Int.not_le, ge_iff_le, gt_iff_lt, not_and, ne_eq, Decidable.not_not] at hc'
  all_goals (try (dsimp only [st, setL, AV.cells, List.set_cons_zero, List.set_cons_succ, List.drop_zero, List.drop_succ_cons, List.take_zero, List.take_succ_cons, Nat.zero_add, Nat.add_zero, Nat.reduceAdd, List.cons_append, List.nil_append, List.eraseIdx_cons_zero, List.eraseIdx_cons_succ]))
  all_goals (refine W ?_)
  · refine LS_ix (n := 0) (fun h' HL => (hR.le HL.le).outer) enV1 hu0 (by omega) rfl rfl fun q1 o1 hrow1 => ?_
    try (dsimp only [st, setL, AV.cells, List.set_cons_zero, List.set_cons_succ, List.drop_zero, List.drop_succ_cons, List.take_zero, List.take_succ_cons, Nat.zero_add, Nat.add_zero, Nat.reduceAdd, List.cons_append, List.nil_append, List.eraseIdx_cons_zero, List.eraseIdx_cons_succ])
    refine W ?_
    refine RET fun h' HL => ?_
    try dsimp only [oneA]
    refine ⟨?_, HL.le⟩
    rw [nf hc, Bool.true_and]
    by_cases e : l.length = (r0 ll).length
    · rw [decide_eq_true e]; simp [e]
    · rw [decide_eq_false e]; simp; omega
  · refine RET fun h' HL => ?_
    try dsimp only [oneA]
    refine ⟨?_, HL.le⟩
    rw [nt hc, Bool.false_and]; rfl

theorem alike_ac (ll : List (List Int)) (v : AV) (vs : List AV) (h : AH) (hR : RdSS h v ll vs) (hll : ll.length ≤ 1048576) (hl : ∀ l ∈ ll, l.length ≤ 1048576) :
    AC Try.prog 43 [v] h (fun r h' => r = .b (alikeB ll) ∧ h.le h') := by
  have sv := rd_sc hR.outer
  have hlen := hR.len
  refine e43 _ fun wf => ?_
  unfold c43
  refine LI_start wf ?_
  refine W ?_
  refine LS_bx1 rfl sv fun b1 => ?_
  try (dsimp only [st, setL, AV.cells, List.set_cons_zero, List.set_cons_succ, List.drop_zero, List.drop_succ_cons, List.take_zero, List.take_succ_cons, Nat.zero_add, Nat.add_zero, Nat.reduceAdd, List.cons_append, List.nil_append, List.eraseIdx_cons_zero, List.eraseIdx_cons_succ])
  refine W ?_
  refine LS_c0 (fun h' HL wf => ContainsFuncSS_ac ll vs v _ _ (fun l => !(isPerm l && decide (l.length = (r0 ll).length))) h' (hR.le HL.le).outer hR.len (by omega) (fun i u x hu hx h2 hle => alike_1_ac u ll v vs x b1 h2 (hle.cell (HL.cellP 0 rfl rfl)) ((hR.le HL.le).le hle) (((hR.le HL.le).row i u x hu hx).le hle) (by have := (List.getElem?_eq_some_iff.1 hx).1; omega) (hl x (List.mem_of_getElem? hx)))) rfl rfl ?_
  try (dsimp only [st, setL, AV.cells, List.set_cons_zero, List.set_cons_succ, List.drop_zero, List.drop_succ_cons, List.take_zero, List.take_succ_cons, Nat.zero_add, Nat.add_zero, Nat.reduceAdd, List.cons_append, List.nil_append, List.eraseIdx_cons_zero, List.eraseIdx_cons_succ])
  refine W ?_
  refine RET fun h' HL => ?_
  try dsimp only [oneA]
  exact ⟨congrArg AV.b List.all_eq_not_any_not.symm, HL.le⟩

theorem moAlike_ac (ll : List (List Int)) (v : AV) (vs : List AV) (h : AH) (hR : RdSS h v ll vs) (hll : ll.length ≤ 1048576) (hl : ∀ l ∈ ll, l.length ≤ 1048576) :
    AC Try.prog 40 [v] h (fun r h' => r = .b (alikeOk ll) ∧ h.le h') := by
  have hlen := hR.len
  have hvl := hR.outer.len
  rw [hlen] at hvl
  refine e40 _ fun wf => ?_
  unfold c40
  refine LI_start wf ?_
  refine W ?_
  refine LIL_ind (fun m a L => ∃ (i : Int), (∃ r : Nat → AV, a = [v, r 1, r 2, r 3, r 4, v, .i .i64 ll.length, .i .i64 i, r 8, r 9, r 10, r 11, r 12, r 13, r 14, r 15, r 16, r 17, r 18, r 19, r 20, r 21, r 22, r 23, r 24, r 25, r 26]) ∧ L = [] ∧ 0 ≤ i ∧ i + m = ll.length ∧ ∀ l ∈ ll.take i.toNat, (isPerm l && decide (l.length = (r0 ll).length)) = true)
    ll.length ⟨0, exJ rfl, rfl, by omega, by omega, by simp⟩ ?_
  rintro m a L ⟨i, ⟨r, rfl⟩, rfl, h0, hk, hg⟩ IH
  refine W ?_
  (first | refine LS_gt rfl ?_ ?_ | refine LS_gf rfl ?_ ?_ | refine LI_cond rfl ?_ ?_) <;> intro hc <;> have hc' := hc <;> try simp only [decide_eq_true_eq, decide_eq_false_iff_not, Bool.not_eq_true', Bool.not_eq_false', Bool.not_eq_true, Bool.not_eq_false, beq_iff_eq, bne_iff_ne, beq_eq_false_iff_ne, bne_eq_false_iff_eq, Int.not_lt, Int.not_le, ge_iff_le, gt_iff_lt, not_and, ne_eq, Decidable.not_not] at hc'
  all_goals (try (dsimp only [st, setL, AV.cells, List.set_cons_zero, List.set_cons_succ, List.drop_zero, List.drop_succ_cons, List.take_zero, List.take_succ_cons, Nat.zero_add, Nat.add_zero, Nat.reduceAdd, List.cons_append, List.nil_append, List.eraseIdx_cons_zero, List.eraseIdx_cons_succ]))
  all_goals (refine W ?_)
  · obtain ⟨l, hx, hlm, _⟩ := drop_at (l := ll) h0 hc'
    obtain ⟨u, hu, hru⟩ := hR.at_ hx
    obtain ⟨u0, hu0, hr0⟩ := hR.at_ (r0_get (ll := ll) (by omega))
    have hul := hru.len
    have hu0l := hr0.len
    have hbad : (isPerm l && decide (l.length = (r0 ll).length)) = false → alikeOk ll = false := fun e => by
      rw [alikeOk, alikeB, Bool.and_eq_false_iff]
      exact .inr (List.all_eq_false.2 ⟨l, hlm, by rw [e]; simp⟩)
    refine LS_ix (fun h' HL => (hR.le HL.le).outer) enV1 hu h0 rfl rfl fun q1 o1 hrow1 => ?_
    try (dsimp only [st, setL, AV.cells, List.set_cons_zero, List.set_cons_succ, List.drop_zero, List.drop_succ_cons, List.take_zero, List.take_succ_cons, Nat.zero_add, Nat.add_zero, Nat.reduceAdd, List.cons_append, List.nil_append, List.eraseIdx_cons_zero, List.eraseIdx_cons_succ])
    refine W ?_
    refine LS_c0 (fun h' HL wf => specIP_ac l u h' (hru.le HL.le) (hl l hlm)) rfl rfl ?_
    try (dsimp only [st, setL, AV.cells, List.set_cons_zero, List.set_cons_succ, List.drop_zero, List.drop_succ_cons, List.take_zero, List.take_succ_cons, Nat.zero_add, Nat.add_zero, Nat.reduceAdd, List.cons_append, List.nil_append, List.eraseIdx_cons_zero, List.eraseIdx_cons_succ])
    refine W ?_
    (first | refine LS_gt rfl ?_ ?_ | refine LS_gf rfl ?_ ?_ | refine LI_cond rfl ?_ ?_) <;> intro hc <;> have hc' := hc <;> try simp only [decide_eq_true_eq, decide_eq_false_iff_not, Bool.not_eq_true', Bool.not_eq_false', Bool.not_eq_true, Bool.not_eq_false, beq_iff_eq, bne_iff_ne, beq_eq_false_iff_ne, bne_eq_false_iff_eq, Int.not_lt, Int.not_le, ge_iff_le, gt_iff_lt, not_and, ne_eq, Decidable.not_not] at hc'
    all_goals (try (dsimp only [st, setL, AV.cells, List.set_cons_zero, List.set_cons_succ, List.drop_zero, List.drop_succ_cons, List.take_zero, List.take_succ_cons, Nat.zero_add, Nat.add_zero, Nat.reduceAdd, List.cons_append, List.nil_append, List.eraseIdx_cons_zero, List.eraseIdx_cons_succ]))
    all_goals (refine W ?_)
    · have h1 := nf hc
      refine LS_ix (n := 0) (fun h' HL => (hR.le HL.le).outer) enV1 hu0 (by omega) rfl rfl fun q2 o2 hrow2 => ?_
      try (dsimp only [st, setL, AV.cells, List.set_cons_zero, List.set_cons_succ, List.drop_zero, List.drop_succ_cons, List.take_zero, List.take_succ_cons, Nat.zero_add, Nat.add_zero, Nat.reduceAdd, List.cons_append, List.nil_append, List.eraseIdx_cons_zero, List.eraseIdx_cons_succ])
      refine W ?_
      (first | refine LS_gt rfl ?_ ?_ | refine LS_gf rfl ?_ ?_ | refine LI_cond rfl ?_ ?_) <;> intro hc <;> have hc' := hc <;> try simp only [decide_eq_true_eq, decide_eq_false_iff_not, Bool.not_eq_true', Bool.not_eq_false', Bool.not_eq_true, Bool.not_eq_false, beq_iff_eq, bne_iff_ne, beq_eq_false_iff_ne, bne_eq_false_iff_eq, Int.not_lt, Int.not_le, ge_iff_le, gt_iff_lt, not_and, ne_eq, Decidable.not_not] at hc'
      all_goals (try (dsimp only [st, setL, AV.cells, List.set_cons_zero, List.set_cons_succ, List.drop_zero, List.drop_succ_cons, List.take_zero, List.take_succ_cons, Nat.zero_add, Nat.add_zero, Nat.reduceAdd, List.cons_append, List.nil_append, List.eraseIdx_cons_zero, List.eraseIdx_cons_succ]))
      all_goals (refine W ?_)
      · rw [hbad (by rw [decide_eq_false (by omega), Bool.and_false])]
        refine RET fun h' HL => ?_
        try dsimp only [oneA]
        exact ⟨rfl, HL.le⟩
      · refine IH (m - 1) _ _ (by omega) ⟨i + 1, exJ rfl, rfl, by omega, by omega, ?_⟩
        rw [toNat_succ h0, take_snoc hx]
        intro y hy
        rcases List.mem_append.1 hy with hy | hy
        · exact hg y hy
        · rw [List.mem_singleton.1 hy, h1, decide_eq_true (by omega)]; rfl
    · rw [hbad (by rw [nt hc, Bool.false_and])]
      refine RET fun h' HL => ?_
      try dsimp only [oneA]
      exact ⟨rfl, HL.le⟩
  · refine RET fun h' HL => ?_
    try dsimp only [oneA]
    refine ⟨?_, HL.le⟩
    rw [List.take_of_length_le (by omega)] at hg
    rw [alikeOk, alikeB, List.all_eq_true.2 hg, Bool.and_true]
    congr 1
    by_cases e : ll.length ≤ 6
    · rw [decide_eq_true e, decide_eq_true (by omega)]
    · rw [decide_eq_false e, decide_eq_false (by omega)]

theorem alike_get {ll : List (List Int)} (H : alikeOk ll = true) {l : List Int} (hm : l ∈ ll) : isPerm l = true ∧ l.length = (r0 ll).length := by
  simp only [alikeOk, alikeB, Bool.and_eq_true] at H
  have := List.all_eq_true.1 H.2 l hm
  simpa using this

/-! ### Plans that are run on permutations -/
theorem Clone_V_ac (l : List AV) (v : AV) (h : AH) (hR : RdG 1 enV h v l) (hl : l.length ≤ 1048576) :
    AC Try.prog 84 [v] h (fun r h' => AL.Own h 1 enV h' r l) := by
  rcases hR.rd with rfl | ⟨b, o, c, rfl, g1, g2⟩
  · have hl0 : l = [] := by have := hR.len; simp [lenA] at this; exact List.length_eq_zero_iff.1 this.symm
    subst hl0
    refine e84 _ fun wf => ?_
    unfold c84
    refine LI_start wf ?_
    refine W ?_
    refine LS_snl rfl rfl true true (.inl ⟨rfl, rfl⟩) (.inl ⟨rfl, rfl⟩) ?_
    try (dsimp only [st, setL, AV.cells, List.set_cons_zero, List.set_cons_succ, List.drop_zero, List.drop_succ_cons, List.take_zero, List.take_succ_cons, Nat.zero_add, Nat.add_zero, Nat.reduceAdd, List.cons_append, List.nil_append, List.eraseIdx_cons_zero, List.eraseIdx_cons_succ])
    refine W ?_
    refine RET fun h' HL => ?_
    try dsimp only [oneA]
    exact AL.Own.nil HL.wf0 HL.le HL.wf _ _
  · refine e84 _ fun wf => ?_
    unfold c84
    refine LI_start wf ?_
    refine W ?_
    refine LS_snl rfl rfl false false (.inr ⟨_, _, _, _, rfl, rfl⟩) (.inl ⟨rfl, rfl⟩) ?_
    try (dsimp only [st, setL, AV.cells, List.set_cons_zero, List.set_cons_succ, List.drop_zero, List.drop_succ_cons, List.take_zero, List.take_succ_cons, Nat.zero_add, Nat.add_zero, Nat.reduceAdd, List.cons_append, List.nil_append, List.eraseIdx_cons_zero, List.eraseIdx_cons_succ])
    refine W ?_
    refine LS_lt ([] : List AV) rfl rfl (by decide) rfl rfl rfl rfl enV1 rfl rfl fun w1 h1 s1 => ?_
    try (dsimp only [st, setL, AV.cells, List.set_cons_zero, List.set_cons_succ, List.drop_zero, List.drop_succ_cons, List.take_zero, List.take_succ_cons, Nat.zero_add, Nat.add_zero, Nat.reduceAdd, List.cons_append, List.nil_append, List.eraseIdx_cons_zero, List.eraseIdx_cons_succ])
    refine W ?_
    refine LS_ap0 0 rfl (fun h' HL => hR.le HL.le) enV1 (by decide) (by simp; omega) (by simp; omega) rfl rfl rfl fun w2 hw2 sw2 => ?_
    try (dsimp only [st, setL, AV.cells, List.set_cons_zero, List.set_cons_succ, List.drop_zero, List.drop_succ_cons, List.take_zero, List.take_succ_cons, Nat.zero_add, Nat.add_zero, Nat.reduceAdd, List.cons_append, List.nil_append, List.eraseIdx_cons_zero, List.eraseIdx_cons_succ])
    refine W ?_
    refine RET fun h' HL => ?_
    try dsimp only [oneA]
    exact HL.ownI 0 rfl enV1 (by decide)

def thenF (a b : List Int) : List Int := pickM b a

def RowsRd (h : AH) (us : List AV) (ll : List (List Int)) : Prop := us.length = ll.length ∧ ∀ (i : Nat) (u : AV) (l : List Int), us[i]? = some u → ll[i]? = some l → Rd h u l

def RowsIn (L : List It) (us0 : List AV) (ll0 : List (List Int)) (us : List AV) (ll : List (List Int)) : Prop := ∀ h0 h, Loq h0 h L → RowsRd h us0 ll0 → RowsRd h us ll

theorem rowsRd_of {h : AH} {v : AV} {ll : List (List Int)} {us : List AV} (H : RdSS h v ll us) : RowsRd h us ll := ⟨H.len, H.row⟩

theorem RowsRd.at_ {h : AH} {us : List AV} {ll : List (List Int)} (H : RowsRd h us ll) {i : Nat} {l : List Int} (hl : ll[i]? = some l) : ∃ u, us[i]? = some u ∧ Rd h u l := by
  have hi : i < us.length := by rw [H.1]; exact (List.getElem?_eq_some_iff.1 hl).1
  exact ⟨us[i], List.getElem?_eq_getElem hi, H.2 i _ l (List.getElem?_eq_getElem hi) hl⟩

theorem RowsIn.snoc {L : List It} {us0 us : List AV} {ll0 ll : List (List Int)} {x : It} {w : AV} {l : List Int} (H : RowsIn L us0 ll0 us ll) : RowsIn (.sl w 1 (l.flatMap enI) :: x :: L) us0 ll0 (us ++ [w]) (ll ++ [l]) := by
  intro h0 h HL H0
  obtain ⟨h1, h2⟩ := H h0 h HL.tail.tail H0
  refine ⟨by simp [h1], fun i u q hu hq => ?_⟩
  by_cases hi : i < us.length
  · rw [List.getElem?_append_left hi] at hu
    rw [List.getElem?_append_left (by omega)] at hq
    exact h2 i u q hu hq
  · rw [List.getElem?_append_right (by omega)] at hu hq
    have e1 : i - us.length = 0 := by
      have := (List.getElem?_eq_some_iff.1 hu).1
      simp at this; omega
    have e2 : i - ll.length = 0 := by omega
    rw [e1] at hu; rw [e2] at hq
    simp at hu hq
    subst hu; subst hq
    exact HL.rdI 0 rfl enI1 (by decide)

/-- All are permutations of as many points. -/
def AllP (n : Nat) (ll : List (List Int)) : Prop := ∀ l ∈ ll, permB l = true ∧ l.length = n

theorem allP_of {ll : List (List Int)} (H : alikeOk ll = true) : AllP (r0 ll).length ll := fun l hl => ⟨(isPerm_out (alike_get H hl).1).2.2, (alike_get H hl).2⟩

theorem thenF_P {n : Nat} {a b : List Int} (ha : permB a = true ∧ a.length = n) (hb : permB b = true ∧ b.length = n) : (permB (thenF a b) = true ∧ (thenF a b).length = n) ∧ ∀ i ∈ a, 0 ≤ i ∧ i < b.length := by
  have h := pick_perm ha.1 hb.1 (ha.2.trans hb.2.symm)
  refine ⟨⟨h.1, h.2.trans ha.2⟩, ?_⟩
  rw [hb.2, ← ha.2]
  exact (permB_out ha.1).2

theorem pickM_getG {α : Type} {l : List α} : ∀ {ix : List Int} {k : Nat} {i : Int}, (∀ j ∈ ix, 0 ≤ j ∧ j < l.length) → ix[k]? = some i → (pickM l ix)[k]? = l[i.toNat]?
  | [], k, i, _, h => by simp at h
  | j :: ix, 0, i, hb, h => by
    simp at h; subst h
    have := hb j (by simp)
    rw [pickM, List.filterMap_cons, List.getElem?_eq_getElem (show j.toNat < l.length by omega)]
    rfl
  | j :: ix, k + 1, i, hb, h => by
    have := hb j (by simp)
    have ih := pickM_getG (l := l) (ix := ix) (k := k) (i := i) (fun j hj => hb j (by simp [hj])) (by simpa using h)
    rw [pickM] at ih ⊢
    rw [List.filterMap_cons, List.getElem?_eq_getElem (show j.toNat < l.length by omega)]
    simpa using ih

theorem pickM_lenG {α : Type} {l : List α} : ∀ {ix : List Int}, (∀ j ∈ ix, 0 ≤ j ∧ j < l.length) → (pickM l ix).length = ix.length
  | [], _ => rfl
  | j :: ix, hb => by
    have := hb j (by simp)
    have ih := pickM_lenG (l := l) (ix := ix) (fun j hj => hb j (by simp [hj]))
    rw [pickM] at ih ⊢
    rw [List.filterMap_cons, List.getElem?_eq_getElem (show j.toNat < l.length by omega)]
    simp [ih]

theorem run_V_ac (p : PlanM) (ll : List (List Int)) (n0 : Nat) (b : Nat) (vs vo w : AV) (us : List AV) (h : AH) (hp : PlP h b p vs vo) (hl : RdSS h w ll us) (hk : planOk p = true) (hn : (ll.length : Int) = p.n) (hP : AllP n0 ll) (hn0 : n0 ≤ 8) :
    AC Try.prog 63 [.p b 0, w, .f 45 []] h (fun r h' => ∃ M, (∃ o LR, lenA r = some o.length ∧ r.sc = true ∧ M = .sl r 1 (o.flatMap enV) :: LR ∧ o.length = (runM thenF p.steps ll).length ∧ RowsIn LR us ll o (runM thenF p.steps ll)) ∧ Loq h h' M) := by
  have c0 := hp.c0
  have c1 := hp.c1
  have c2 := hp.c2
  have hs := hp.steps
  have hul := hl.len
  obtain ⟨h1, h2, h3, h4, hf, h6⟩ := planOk_out hk
  refine e63 _ _ _ fun wf => ?_
  unfold c63
  refine LI_start wf ?_
  refine W ?_
  refine LS_co (fun h' HL wf => Clone_V_ac us w h' (hl.le HL.le).outer (by omega)) enV1 rfl rfl fun w1 hw1 sw1 => ?_
  try (dsimp only [st, setL, AV.cells, List.set_cons_zero, List.set_cons_succ, List.drop_zero, List.drop_succ_cons, List.take_zero, List.take_succ_cons, Nat.zero_add, Nat.add_zero, Nat.reduceAdd, List.cons_append, List.nil_append, List.eraseIdx_cons_zero, List.eraseIdx_cons_succ])
  refine W ?_
  refine LIL_ind (fun n a L => ∃ (i : Int) (u : AV) (o : List AV) (ls : List (List Int)) (LR : List It), (∃ r : Nat → AV, a = [r 0, r 1, .f 45 [], r 3, r 4, r 5, r 6, u, r 8, r 9, r 10, r 11, r 12, r 13, r 14, vs, .i .i64 p.steps.length, .i .i64 i, r 18, r 19, r 20, r 21, r 22, r 23, r 24, r 25, r 26, r 27, r 28, r 29, r 30, r 31, r 32, r 33, r 34, r 35, r 36, r 37]) ∧ L = .sl u 1 (o.flatMap enV) :: LR ∧ 0 ≤ i ∧ i + n = p.steps.length ∧ runM thenF p.steps ll = runM thenF (p.steps.drop i.toNat) ls ∧ (ls.length : Int) = p.n + i ∧ o.length = ls.length ∧ AllP n0 ls ∧ RowsIn LR us ll o ls)
    p.steps.length ⟨0, _, us, ll, [], exJ rfl, rfl, by omega, by omega, rfl, by omega, hul, hP, fun _ _ _ H => H⟩ ?_
  rintro n a L ⟨i, u, o, ls, LR, ⟨r, rfl⟩, rfl, h0, hn', heq, hol, hoo, hPo, hRo⟩ IH
  refine W ?_
  (first | refine LS_gt rfl ?_ ?_ | refine LS_gf rfl ?_ ?_ | refine LI_cond rfl ?_ ?_) <;> intro hc <;> have hc' := hc <;> try simp only [decide_eq_true_eq, decide_eq_false_iff_not, Bool.not_eq_true', Bool.not_eq_false', Bool.not_eq_true, Bool.not_eq_false, beq_iff_eq, bne_iff_ne, beq_eq_false_iff_ne, bne_eq_false_iff_eq, Int.not_lt, Int.not_le, ge_iff_le, gt_iff_lt, not_and, ne_eq, Decidable.not_not] at hc'
  all_goals (try (dsimp only [st, setL, AV.cells, List.set_cons_zero, List.set_cons_succ, List.drop_zero, List.drop_succ_cons, List.take_zero, List.take_succ_cons, Nat.zero_add, Nat.add_zero, Nat.reduceAdd, List.cons_append, List.nil_append, List.eraseIdx_cons_zero, List.eraseIdx_cons_succ]))
  all_goals (refine W ?_)
  · obtain ⟨s, hs', _, hd⟩ := drop_at (l := p.steps) h0 hc'
    have hb := formedS_get hf hs'
    have l1 : s.1.toNat < ls.length := by omega
    have l2 : s.2.toNat < ls.length := by omega
    have g1 : ls[s.1.toNat]? = some ls[s.1.toNat] := List.getElem?_eq_getElem l1
    have g2 : ls[s.2.toNat]? = some ls[s.2.toNat] := List.getElem?_eq_getElem l2
    have p1 := hPo _ (List.getElem_mem l1)
    have p2 := hPo _ (List.getElem_mem l2)
    have k1 : o[s.1.toNat]? = some o[s.1.toNat] := List.getElem?_eq_getElem (by omega)
    have k2 : o[s.2.toNat]? = some o[s.2.toNat] := List.getElem?_eq_getElem (by omega)
    have e : runS thenF ls s = ls ++ [thenF ls[s.1.toNat] ls[s.2.toNat]] := by simp [runS, g1, g2]
    rw [hd, runM_cons, e] at heq
    generalize ls[s.1.toNat] = x at *
    generalize ls[s.2.toNat] = y at *
    generalize o[s.1.toNat] = ux at *
    generalize o[s.2.toNat] = uy at *
    have hT := thenF_P p1 p2
    have hrx : ∀ h', Loq h h' LR → Rd h' ux x := fun h' HL => (hRo h h' HL (rowsRd_of (hl.le HL.le))).2 _ _ _ k1 g1
    have hry : ∀ h', Loq h h' LR → Rd h' uy y := fun h' HL => (hRo h h' HL (rowsRd_of (hl.le HL.le))).2 _ _ _ k2 g2
    refine LS_ix (fun h' HL => hs.le HL.le) enStep2 hs' h0 rfl rfl fun q1 o1 hrow1 => ?_
    try (dsimp only [st, setL, AV.cells, List.set_cons_zero, List.set_cons_succ, List.drop_zero, List.drop_succ_cons, List.take_zero, List.take_succ_cons, Nat.zero_add, Nat.add_zero, Nat.reduceAdd, List.cons_append, List.nil_append, List.eraseIdx_cons_zero, List.eraseIdx_cons_succ])
    refine W ?_
    refine LS_al rfl fun b3 => ?_
    try (dsimp only [st, setL, AV.cells, List.set_cons_zero, List.set_cons_succ, List.drop_zero, List.drop_succ_cons, List.take_zero, List.take_succ_cons, Nat.zero_add, Nat.add_zero, Nat.reduceAdd, List.cons_append, List.nil_append, List.eraseIdx_cons_zero, List.eraseIdx_cons_succ])
    refine W ?_
    refine dz63_0 ?_
    refine WX ?_
    refine W ?_
    refine LX_ix (fun h' HL => HL.rdI 1 rfl enV1 (by decide)) enV1 k1 (by omega) rfl rfl noG fun q2 o2 hrow2 => ?_
    try (dsimp only [st, setL, AV.cells, List.set_cons_zero, List.set_cons_succ, List.drop_zero, List.drop_succ_cons, List.take_zero, List.take_succ_cons, Nat.zero_add, Nat.add_zero, Nat.reduceAdd, List.cons_append, List.nil_append, List.eraseIdx_cons_zero, List.eraseIdx_cons_succ])
    refine WX ?_
    refine W ?_
    refine LX_ix (fun h' HL => HL.rdI 1 rfl enV1 (by decide)) enV1 k2 (by omega) rfl rfl noG fun q3 o3 hrow3 => ?_
    try (dsimp only [st, setL, AV.cells, List.set_cons_zero, List.set_cons_succ, List.drop_zero, List.drop_succ_cons, List.take_zero, List.take_succ_cons, Nat.zero_add, Nat.add_zero, Nat.reduceAdd, List.cons_append, List.nil_append, List.eraseIdx_cons_zero, List.eraseIdx_cons_succ])
    refine WX ?_
    refine W ?_
    refine LX_co (fun h' HL wf => then_ac x y ux uy h'.frz (hrx h' HL.tail.tail).frz (hry h' HL.tail.tail).frz (by rw [p1.2]; omega) hT.2) enI1 rfl rfl noG fun w3 hw3 sw3 => ?_
    try (dsimp only [st, setL, AV.cells, List.set_cons_zero, List.set_cons_succ, List.drop_zero, List.drop_succ_cons, List.take_zero, List.take_succ_cons, Nat.zero_add, Nat.add_zero, Nat.reduceAdd, List.cons_append, List.nil_append, List.eraseIdx_cons_zero, List.eraseIdx_cons_succ])
    refine WX ?_
    refine W ?_
    refine LX_ltV rfl rfl sw3 rfl noG fun w4 hw4 sw4 => ?_
    try (dsimp only [st, setL, AV.cells, List.set_cons_zero, List.set_cons_succ, List.drop_zero, List.drop_succ_cons, List.take_zero, List.take_succ_cons, Nat.zero_add, Nat.add_zero, Nat.reduceAdd, List.cons_append, List.nil_append, List.eraseIdx_cons_zero, List.eraseIdx_cons_succ])
    refine WX ?_
    refine W ?_
    refine LX_f noG (LO_ap 3 rfl (fun h' HL => HL.rdI 0 rfl enV1 (by decide)) enV1 (by decide) (by simp) (by simp; omega) (by simp; omega) rfl rfl rfl fun w5 hw5 sw5 => ?_)
    try (dsimp only [st, setL, AV.cells, List.set_cons_zero, List.set_cons_succ, List.drop_zero, List.drop_succ_cons, List.take_zero, List.take_succ_cons, Nat.zero_add, Nat.add_zero, Nat.reduceAdd, List.cons_append, List.nil_append, List.eraseIdx_cons_zero, List.eraseIdx_cons_succ])
    refine WX ?_
    refine W ?_
    refine LIL_drop 1 (LIL_rot 2 rfl ?_)
    refine IH (n - 1) _ _ (by omega) ⟨i + 1, _, _, _, _, exJ rfl, rfl, by omega, by omega, by rw [toNat_succ h0]; exact heq, by simp; omega, by simp [hoo], ?_, hRo.snoc⟩
    intro z hz
    rcases List.mem_append.1 hz with hz | hz
    · exact hPo z hz
    · rw [List.mem_singleton.1 hz]; exact hT.1
  · rw [List.drop_eq_nil_of_le (by omega)] at heq
    refine RET fun h' HL => ?_
    try dsimp only [oneA]
    rw [heq]
    have hR := HL.rdI 0 rfl enV1 (by decide)
    exact ⟨_, ⟨o, LR, hR.len, rd_sc hR, rfl, hoo, hRo⟩, HL⟩

theorem outputsOf_V_ac (p : PlanM) (l : List AV) (b : Nat) (vs vo w : AV) (h : AH) (hp : PlP h b p vs vo) (hl : RdG 1 enV h w l) (hsc : ∀ x ∈ l, x.sc = true) (ho1 : p.outs.length ≤ 1048576) (hob : ∀ i ∈ p.outs, 0 ≤ i ∧ i < l.length) :
    AC Try.prog 62 [.p b 0, w] h (fun r h' => AL.Own h 1 enV h' r (pickM l p.outs)) := by
  have c2 := hp.c2
  have ho := hp.outs
  refine e62 _ _ fun wf => ?_
  unfold c62
  refine LI_start wf ?_
  refine W ?_
  refine LS_lt ([] : List AV) rfl rfl (by decide) rfl rfl rfl rfl enV1 rfl rfl fun lit3 hlit3 slit3 => ?_
  try (dsimp only [st, setL, AV.cells, List.set_cons_zero, List.set_cons_succ, List.drop_zero, List.drop_succ_cons, List.take_zero, List.take_succ_cons, Nat.zero_add, Nat.add_zero, Nat.reduceAdd, List.cons_append, List.nil_append, List.eraseIdx_cons_zero, List.eraseIdx_cons_succ])
  refine W ?_
  refine LIL_ind (fun n a L => ∃ (i : Int) (u : AV), (∃ r : Nat → AV, a = [r 0, w, r 2, r 3, r 4, u, r 6, r 7, r 8, r 9, r 10, r 11, vo, .i .i64 p.outs.length, .i .i64 i, r 15, r 16, r 17, r 18, r 19, r 20, r 21, r 22, r 23, r 24, r 25, r 26]) ∧ L = [.sl u 1 ((pickM l (p.outs.take i.toNat)).flatMap enV)] ∧ 0 ≤ i ∧ i + n = p.outs.length)
    p.outs.length ⟨0, _, exJ rfl, rfl, by omega, by omega⟩ ?_
  rintro n a L ⟨i, u, ⟨r, rfl⟩, rfl, h0, hn⟩ IH
  have hel := pickM_len l (p.outs.take i.toNat)
  rw [List.length_take] at hel
  refine W ?_
  (first | refine LS_gt rfl ?_ ?_ | refine LS_gf rfl ?_ ?_ | refine LI_cond rfl ?_ ?_) <;> intro hc <;> have hc' := hc <;> try simp only [decide_eq_true_eq, decide_eq_false_iff_not, Bool.not_eq_true', Bool.not_eq_false', Bool.not_eq_true, Bool.not_eq_false, beq_iff_eq, bne_iff_ne, beq_eq_false_iff_ne, bne_eq_false_iff_eq, Int.not_lt, Int.not_le, ge_iff_le, gt_iff_lt, not_and, ne_eq, Decidable.not_not] at hc'
  all_goals (try (dsimp only [st, setL, AV.cells, List.set_cons_zero, List.set_cons_succ, List.drop_zero, List.drop_succ_cons, List.take_zero, List.take_succ_cons, Nat.zero_add, Nat.add_zero, Nat.reduceAdd, List.cons_append, List.nil_append, List.eraseIdx_cons_zero, List.eraseIdx_cons_succ]))
  all_goals (refine W ?_)
  · obtain ⟨y, hy, hym, hd⟩ := drop_at (l := p.outs) h0 hc'
    have hyb := hob y hym
    have l1 : y.toNat < l.length := by omega
    have g1 : l[y.toNat]? = some l[y.toNat] := List.getElem?_eq_getElem l1
    have s1 := hsc _ (List.getElem_mem l1)
    have e : pickM l (p.outs.take (i + 1).toNat) = pickM l (p.outs.take i.toNat) ++ [l[y.toNat]] := by
      rw [toNat_succ h0, take_snoc hy, pickM, List.filterMap_append]
      simp [g1, pickM]
    refine LS_ix (fun h' HL => ho.le HL.le) enI1 hy h0 rfl rfl fun q1 o1 hrow1 => ?_
    try (dsimp only [st, setL, AV.cells, List.set_cons_zero, List.set_cons_succ, List.drop_zero, List.drop_succ_cons, List.take_zero, List.take_succ_cons, Nat.zero_add, Nat.add_zero, Nat.reduceAdd, List.cons_append, List.nil_append, List.eraseIdx_cons_zero, List.eraseIdx_cons_succ])
    refine W ?_
    refine LS_ix (fun h' HL => hl.le HL.le) enV1 g1 hyb.1 rfl rfl fun q2 o2 hrow2 => ?_
    try (dsimp only [st, setL, AV.cells, List.set_cons_zero, List.set_cons_succ, List.drop_zero, List.drop_succ_cons, List.take_zero, List.take_succ_cons, Nat.zero_add, Nat.add_zero, Nat.reduceAdd, List.cons_append, List.nil_append, List.eraseIdx_cons_zero, List.eraseIdx_cons_succ])
    refine W ?_
    refine LS_ltV rfl rfl s1 rfl fun lit4 hlit4 slit4 => ?_
    try (dsimp only [st, setL, AV.cells, List.set_cons_zero, List.set_cons_succ, List.drop_zero, List.drop_succ_cons, List.take_zero, List.take_succ_cons, Nat.zero_add, Nat.add_zero, Nat.reduceAdd, List.cons_append, List.nil_append, List.eraseIdx_cons_zero, List.eraseIdx_cons_succ])
    refine W ?_
    refine LS_ap 1 rfl (fun h' HL => HL.rdI 0 rfl enV1 (by decide)) enV1 (by decide) (by simp) (by simp; omega) (by simp; omega) rfl rfl rfl fun w5 hw5 sw5 => ?_
    try (dsimp only [st, setL, AV.cells, List.set_cons_zero, List.set_cons_succ, List.drop_zero, List.drop_succ_cons, List.take_zero, List.take_succ_cons, Nat.zero_add, Nat.add_zero, Nat.reduceAdd, List.cons_append, List.nil_append, List.eraseIdx_cons_zero, List.eraseIdx_cons_succ])
    refine W ?_
    refine LIL_drop 1 ?_
    refine IH (n - 1) _ _ (by omega) ⟨i + 1, _, exJ rfl, by rw [e]; rfl, by omega, by omega⟩
  · have ei : i.toNat = p.outs.length := by omega
    rw [ei, List.take_length]
    refine RET fun h' HL => ?_
    try dsimp only [oneA]
    exact HL.ownI 0 rfl enV1 (by decide)

/-! ### RunPermutations, both -/
def prOk (p : PlanM) (ll : List (List Int)) : Bool := planOk p && (decide ((ll.length : Int) = p.n) && alikeOk ll)

def prR (p : PlanM) (ll : List (List Int)) : List (List Int) := if prOk p ll = true then pickM (runM thenF p.steps ll) p.outs else []

theorem prR_bad {p : PlanM} {ll : List (List Int)} (h : prOk p ll = false) : prR p ll = [] := by simp [prR, h]

/-- Lists of lists handed back, and whether. -/
def TupSS (ll : List (List Int)) (ok : Bool) (r : AV) (M : List It) : Prop := ∃ w us, r = .tup [w, .b ok] ∧ us.length = ll.length ∧ lenA w = some ll.length ∧ w.sc = true ∧ M = ssI w us ll

theorem TupSS.none {h0 h : AH} {L : List It} (H : Loq h0 h L) : ∃ M, TupSS [] false (.tup [.ns, .b false]) M ∧ Loq h0 h M := ⟨_, ⟨.ns, [], rfl, rfl, rfl, rfl, rfl⟩, loq_ns (H.sub (List.nil_sublist _)) 1⟩

theorem runP_all {p : PlanM} {ll : List (List Int)} {n0 : Nat} (hk : planOk p = true) (hn : (ll.length : Int) = p.n) (hP : AllP n0 ll) : AllP n0 (runM thenF p.steps ll) := by
  obtain ⟨h1, h2, h3, h4, hf, h6⟩ := planOk_out hk
  suffices H : ∀ (l : List (Int × Int)) (i : Nat) (o : List (List Int)), formedS p.n i l = true → (o.length : Int) = p.n + i → AllP n0 o → AllP n0 (runM thenF l o) from H p.steps 0 ll hf (by omega) hP
  intro l
  induction l with
  | nil => intro i o _ _ ho; exact ho
  | cons s l ih =>
    intro i o hf ho hP
    have hs := formedS_get (i := 0) (s := s) hf rfl
    have l1 : s.1.toNat < o.length := by omega
    have l2 : s.2.toNat < o.length := by omega
    have hf' : formedS p.n (i + 1) l = true := by simp only [formedS, Bool.and_eq_true] at hf; exact hf.2
    have e : runS thenF o s = o ++ [thenF o[s.1.toNat] o[s.2.toNat]] := by simp [runS, l1, l2]
    rw [runM_cons, e]
    refine ih (i + 1) _ hf' (by simp; omega) fun z hz => ?_
    rcases List.mem_append.1 hz with hz | hz
    · exact hP z hz
    · rw [List.mem_singleton.1 hz]; exact (thenF_P (hP _ (List.getElem_mem l1)) (hP _ (List.getElem_mem l2))).1

theorem prOk_out {p : PlanM} {ll : List (List Int)} (h : prOk p ll = true) : planOk p = true ∧ (ll.length : Int) = p.n ∧ alikeOk ll = true := by
  simp only [prOk, Bool.and_eq_true, decide_eq_true_eq] at h
  exact ⟨h.1, h.2.1, h.2.2⟩

theorem outs_bd {p : PlanM} {ll : List (List Int)} (h : prOk p ll = true) : ∀ i ∈ p.outs, 0 ≤ i ∧ i < (runM thenF p.steps ll).length := by
  obtain ⟨hk, hn, ha⟩ := prOk_out h
  exact outs_in hk hn

theorem prR_bdd {p : PlanM} {ll : List (List Int)} : (prR p ll).length ≤ 6 ∧ ∀ l ∈ prR p ll, l.length ≤ 8 := by
  unfold prR
  split
  · rename_i h
    obtain ⟨hk, hn, ha⟩ := prOk_out h
    obtain ⟨h1, h2, h3, h4, hf, h6⟩ := planOk_out hk
    refine ⟨Nat.le_trans (pickM_len _ _) (by omega), fun l hl => ?_⟩
    have := runP_all hk hn (allP_of ha) l (pickM_in hl)
    have h0 : 0 < ll.length := by omega
    have hm := alike_get ha (List.getElem_mem h0)
    have h8 := (isPerm_out hm.1).2.1
    rw [this.2, ← hm.2]
    exact h8
  · simp

theorem implRunP_ac (p : PlanM) (v : AV) (ll : List (List Int)) (w : AV) (vs : List AV) (h : AH) (hR : PlR h v p) (hw : PSm p) (hl : RdSS h w ll vs) (hll : ll.length ≤ 1048576) (hl1 : ∀ l ∈ ll, l.length ≤ 1048576) :
    AC Try.prog 29 [v, w] h (fun r h' => ∃ M, TupSS (prR p ll) (prOk p ll) r M ∧ Loq h h' M) := by
  have hR0 := hR
  have hvl := hl.outer.len
  rw [hl.len] at hvl
  obtain ⟨vt, vo, rfl, hs, ho⟩ := hR
  refine e29 _ _ fun wf => ?_
  unfold c29
  refine LI_start wf ?_
  refine W ?_
  refine LS_bxn rfl (sc_cons rfl (sc_cons (rd_sc hs) (sc_cons (rd_sc ho) rfl))) fun b1 => ?_
  try (dsimp only [st, setL, AV.cells, List.set_cons_zero, List.set_cons_succ, List.drop_zero, List.drop_succ_cons, List.take_zero, List.take_succ_cons, Nat.zero_add, Nat.add_zero, Nat.reduceAdd, List.cons_append, List.nil_append, List.eraseIdx_cons_zero, List.eraseIdx_cons_succ])
  refine W ?_
  refine LS_c0 (fun h' HL wf => isPlan_ac p _ h' (hR0.le HL.le) hw) rfl rfl ?_
  try (dsimp only [st, setL, AV.cells, List.set_cons_zero, List.set_cons_succ, List.drop_zero, List.drop_succ_cons, List.take_zero, List.take_succ_cons, Nat.zero_add, Nat.add_zero, Nat.reduceAdd, List.cons_append, List.nil_append, List.eraseIdx_cons_zero, List.eraseIdx_cons_succ])
  refine W ?_
  (first | refine LS_gt rfl ?_ ?_ | refine LS_gf rfl ?_ ?_ | refine LI_cond rfl ?_ ?_) <;> intro hc <;> have hc' := hc <;> try simp only [decide_eq_true_eq, decide_eq_false_iff_not, Bool.not_eq_true', Bool.not_eq_false', Bool.not_eq_true, Bool.not_eq_false, beq_iff_eq, bne_iff_ne, beq_eq_false_iff_ne, bne_eq_false_iff_eq, Int.not_lt, Int.not_le, ge_iff_le, gt_iff_lt, not_and, ne_eq, Decidable.not_not] at hc'
  all_goals (try (dsimp only [st, setL, AV.cells, List.set_cons_zero, List.set_cons_succ, List.drop_zero, List.drop_succ_cons, List.take_zero, List.take_succ_cons, Nat.zero_add, Nat.add_zero, Nat.reduceAdd, List.cons_append, List.nil_append, List.eraseIdx_cons_zero, List.eraseIdx_cons_succ]))
  all_goals (refine W ?_)
  · have hk := nf hc
    obtain ⟨h1, h2, h3, h4, hf, h6⟩ := planOk_out hk
    (first | refine LS_gt rfl ?_ ?_ | refine LS_gf rfl ?_ ?_ | refine LI_cond rfl ?_ ?_) <;> intro hc <;> have hc' := hc <;> try simp only [decide_eq_true_eq, decide_eq_false_iff_not, Bool.not_eq_true', Bool.not_eq_false', Bool.not_eq_true, Bool.not_eq_false, beq_iff_eq, bne_iff_ne, beq_eq_false_iff_ne, bne_eq_false_iff_eq, Int.not_lt, Int.not_le, ge_iff_le, gt_iff_lt, not_and, ne_eq, Decidable.not_not] at hc'
    all_goals (try (dsimp only [st, setL, AV.cells, List.set_cons_zero, List.set_cons_succ, List.drop_zero, List.drop_succ_cons, List.take_zero, List.take_succ_cons, Nat.zero_add, Nat.add_zero, Nat.reduceAdd, List.cons_append, List.nil_append, List.eraseIdx_cons_zero, List.eraseIdx_cons_succ]))
    all_goals (refine W ?_)
    · have hn : (ll.length : Int) = p.n := by simpa using hc
      refine LS_c0 (fun h' HL wf => alike_ac ll w vs h' (hl.le HL.le) hll hl1) rfl rfl ?_
      try (dsimp only [st, setL, AV.cells, List.set_cons_zero, List.set_cons_succ, List.drop_zero, List.drop_succ_cons, List.take_zero, List.take_succ_cons, Nat.zero_add, Nat.add_zero, Nat.reduceAdd, List.cons_append, List.nil_append, List.eraseIdx_cons_zero, List.eraseIdx_cons_succ])
      refine W ?_
      have hab : alikeOk ll = alikeB ll := by rw [alikeOk, decide_eq_true (by omega), Bool.true_and]
      (first | refine LS_gt rfl ?_ ?_ | refine LS_gf rfl ?_ ?_ | refine LI_cond rfl ?_ ?_) <;> intro hc <;> have hc' := hc <;> try simp only [decide_eq_true_eq, decide_eq_false_iff_not, Bool.not_eq_true', Bool.not_eq_false', Bool.not_eq_true, Bool.not_eq_false, beq_iff_eq, bne_iff_ne, beq_eq_false_iff_ne, bne_eq_false_iff_eq, Int.not_lt, Int.not_le, ge_iff_le, gt_iff_lt, not_and, ne_eq, Decidable.not_not] at hc'
      all_goals (try (dsimp only [st, setL, AV.cells, List.set_cons_zero, List.set_cons_succ, List.drop_zero, List.drop_succ_cons, List.take_zero, List.take_succ_cons, Nat.zero_add, Nat.add_zero, Nat.reduceAdd, List.cons_append, List.nil_append, List.eraseIdx_cons_zero, List.eraseIdx_cons_succ]))
      all_goals (refine W ?_)
      · have hko : prOk p ll = false := by rw [prOk, hab, nt hc, Bool.and_false, Bool.and_false]
        rw [hko, prR_bad hko]
        refine RET fun h' HL => ?_
        try dsimp only [oneA]
        exact TupSS.none HL
      · have ha : alikeOk ll = true := by rw [hab]; exact nf hc
        have hko : prOk p ll = true := by rw [prOk, hk, ha, decide_eq_true hn]; rfl
        have hob := outs_bd hko
        have hP := allP_of ha
        have hPr := runP_all hk hn hP
        have h8 : (r0 ll).length ≤ 8 := by
          have hm := alike_get ha (List.getElem_mem (show 0 < ll.length by omega))
          have := (isPerm_out hm.1).2.1
          omega
        rw [hko, prR, if_pos hko]
        refine LS_lt ([] : List AV) rfl rfl (by decide) rfl rfl rfl rfl enV1 rfl rfl fun lit0 hlit0 slit0 => ?_
        try (dsimp only [st, setL, AV.cells, List.set_cons_zero, List.set_cons_succ, List.drop_zero, List.drop_succ_cons, List.take_zero, List.take_succ_cons, Nat.zero_add, Nat.add_zero, Nat.reduceAdd, List.cons_append, List.nil_append, List.eraseIdx_cons_zero, List.eraseIdx_cons_succ])
        refine W ?_
        refine LS_c1 (fun h' HL wf => run_V_ac p ll (r0 ll).length b1 vt vo w vs h' ⟨HL.rowsP 1 rfl (Nat.le_refl 3) rfl, hs.le HL.le, ho.le HL.le⟩ (hl.le HL.le) hk hn hP h8) rfl rfl ?_
        try (dsimp only [st, setL, AV.cells, List.set_cons_zero, List.set_cons_succ, List.drop_zero, List.drop_succ_cons, List.take_zero, List.take_succ_cons, Nat.zero_add, Nat.add_zero, Nat.reduceAdd, List.cons_append, List.nil_append, List.eraseIdx_cons_zero, List.eraseIdx_cons_succ])
        refine W ?_
        rintro r1 _ ⟨o, LR, lr1, sr1, rfl, hol, hRo⟩
        try (dsimp only [st, setL, AV.cells, List.set_cons_zero, List.set_cons_succ, List.drop_zero, List.drop_succ_cons, List.take_zero, List.take_succ_cons, Nat.zero_add, Nat.add_zero, Nat.reduceAdd, List.cons_append, List.nil_append, List.eraseIdx_cons_zero, List.eraseIdx_cons_succ])
        refine W ?_
        generalize hrun : runM thenF p.steps ll = rr at *
        have hrows : ∀ h', Loq h h' (.sl r1 1 (o.flatMap enV) :: (LR ++ [.sl lit0 1 (([] : List AV).flatMap enV), .pt b1 [.i .i64 p.n, vt, vo]])) → RowsRd h' o rr := fun h' HL => hRo h h' (HL.tail.sub (List.sublist_append_left _ _)) (rowsRd_of (hl.le HL.le))
        refine LS_hv (φ := ∀ x ∈ o, x.sc = true) (fun h' HL x hx => ?_) fun hosc => ?_
        · obtain ⟨i, hi⟩ := List.mem_iff_getElem?.1 hx
          have hil : i < rr.length := by rw [← hol]; exact (List.getElem?_eq_some_iff.1 hi).1
          exact rd_sc ((hrows h' HL).2 i x _ hi (List.getElem?_eq_getElem hil))
        have hobo : ∀ i ∈ p.outs, 0 ≤ i ∧ i < o.length := by rw [hol]; exact hob
        refine LS_co (fun h' HL wf => outputsOf_V_ac p o b1 vt vo r1 h' ⟨HL.rowsP (row := [.i .i64 p.n, vt, vo]) (LR.length + 2) (by simp) (Nat.le_refl 3) rfl, hs.le HL.le, ho.le HL.le⟩ (HL.rdI 0 rfl enV1 (by decide)) hosc (by omega) hobo) enV1 rfl rfl fun w2 hw2 sw2 => ?_
        try (dsimp only [st, setL, AV.cells, List.set_cons_zero, List.set_cons_succ, List.drop_zero, List.drop_succ_cons, List.take_zero, List.take_succ_cons, Nat.zero_add, Nat.add_zero, Nat.reduceAdd, List.cons_append, List.nil_append, List.eraseIdx_cons_zero, List.eraseIdx_cons_succ])
        refine W ?_
        have hpl := pickM_lenG hobo
        have hpm : List.Perm (It.sl w2 1 ((pickM o p.outs).flatMap enV) :: It.sl r1 1 (o.flatMap enV) :: (LR ++ [It.sl lit0 1 (([] : List AV).flatMap enV), It.pt b1 [.i .i64 p.n, vt, vo]])) (It.sl lit0 1 (([] : List AV).flatMap enV) :: ((It.sl w2 1 ((pickM o p.outs).flatMap enV) :: It.sl r1 1 (o.flatMap enV) :: LR) ++ [It.pt b1 [.i .i64 p.n, vt, vo]])) :=
          List.perm_middle (l₁ := It.sl w2 1 ((pickM o p.outs).flatMap enV) :: It.sl r1 1 (o.flatMap enV) :: LR)
        refine LIL_perm hpm ?_
        refine LIL_ind (fun k a L => ∃ (out : AV) (i : Int) (us : List AV), (∃ r : Nat → AV, a = [r 0, r 1, r 2, r 3, r 4, r 5, out, r 7, r 8, r 9, r 10, r 11, r 12, r 13, r 14, r 15, r 16, r 17, r 18, r 19, r 20, r 21, r 22, r 23, r 24, r 25, r 26, w2, .i .i64 (pickM o p.outs).length, .i .i64 i, r 30, r 31, r 32, r 33, r 34, r 35, r 36, r 37, r 38, r 39]) ∧ L = .sl out 1 (us.flatMap enV) :: (rowsI us ((pickM rr p.outs).take i.toNat) ++ ((.sl w2 1 ((pickM o p.outs).flatMap enV) :: .sl r1 1 (o.flatMap enV) :: LR) ++ [.pt b1 [.i .i64 p.n, vt, vo]])) ∧ us.length = i.toNat ∧ 0 ≤ i ∧ i + k = p.outs.length ∧ lenA out = some us.length ∧ out.sc = true)
          p.outs.length ⟨lit0, 0, [], exJ rfl, rfl, rfl, by omega, by omega, hlit0, slit0⟩ ?_
        rintro k a L ⟨out, i, us, ⟨r, rfl⟩, rfl, hus, h0, hk', lo, so⟩ IH
        have hrl := pickM_lenG hob
        have hul : us.length = ((pickM rr p.outs).take i.toNat).length := by rw [hus, List.length_take, hrl]; omega
        refine W ?_
        (first | refine LS_gt rfl ?_ ?_ | refine LS_gf rfl ?_ ?_ | refine LI_cond rfl ?_ ?_) <;> intro hc <;> have hc' := hc <;> try simp only [decide_eq_true_eq, decide_eq_false_iff_not, Bool.not_eq_true', Bool.not_eq_false', Bool.not_eq_true, Bool.not_eq_false, beq_iff_eq, bne_iff_ne, beq_eq_false_iff_ne, bne_eq_false_iff_eq, Int.not_lt, Int.not_le, ge_iff_le, gt_iff_lt, not_and, ne_eq, Decidable.not_not] at hc'
        all_goals (try (dsimp only [st, setL, AV.cells, List.set_cons_zero, List.set_cons_succ, List.drop_zero, List.drop_succ_cons, List.take_zero, List.take_succ_cons, Nat.zero_add, Nat.add_zero, Nat.reduceAdd, List.cons_append, List.nil_append, List.eraseIdx_cons_zero, List.eraseIdx_cons_succ]))
        all_goals (refine W ?_)
        · obtain ⟨y, hy, hym, _⟩ := drop_at (l := p.outs) h0 (by omega)
          have hyb := hob y hym
          have g1 : rr[y.toNat]? = some rr[y.toNat] := List.getElem?_eq_getElem (by omega)
          have k1 : o[y.toNat]? = some o[y.toNat] := List.getElem?_eq_getElem (by omega)
          have g2 := pickM_getG hob hy
          have k2 := pickM_getG hobo hy
          rw [g1] at g2
          rw [k1] at k2
          have hpx := hPr _ (List.getElem_mem (show y.toNat < rr.length by omega))
          generalize rr[y.toNat] = x at *
          generalize o[y.toNat] = ux at *
          have hrx : ∀ h', Loq h h' (.sl out 1 (us.flatMap enV) :: (rowsI us ((pickM rr p.outs).take i.toNat) ++ ((.sl w2 1 ((pickM o p.outs).flatMap enV) :: .sl r1 1 (o.flatMap enV) :: LR) ++ [.pt b1 [.i .i64 p.n, vt, vo]]))) → Rd h' ux x := fun h' HL =>
            (hRo h h' (HL.sub (.cons _ (List.Sublist.trans (.cons _ (.cons _ (List.sublist_append_left _ _))) (List.sublist_append_right _ _)))) (rowsRd_of (hl.le HL.le))).2 _ _ _ k1 g1
          refine LS_ix (fun h' HL => HL.rdM (List.mem_cons_of_mem _ (List.mem_append_right _ List.mem_cons_self)) enV1 (by decide)) enV1 k2 h0 rfl rfl fun q2 o2 hrow2 => ?_
          try (dsimp only [st, setL, AV.cells, List.set_cons_zero, List.set_cons_succ, List.drop_zero, List.drop_succ_cons, List.take_zero, List.take_succ_cons, Nat.zero_add, Nat.add_zero, Nat.reduceAdd, List.cons_append, List.nil_append, List.eraseIdx_cons_zero, List.eraseIdx_cons_succ])
          refine W ?_
          refine LS_co (fun h' HL wf => Clone_int_ac x ux h' (hrx h' HL) (by rw [hpx.2]; omega)) enI1 rfl rfl fun w1 lw1 sw1 => ?_
          try (dsimp only [st, setL, AV.cells, List.set_cons_zero, List.set_cons_succ, List.drop_zero, List.drop_succ_cons, List.take_zero, List.take_succ_cons, Nat.zero_add, Nat.add_zero, Nat.reduceAdd, List.cons_append, List.nil_append, List.eraseIdx_cons_zero, List.eraseIdx_cons_succ])
          refine W ?_
          refine LS_ltV rfl rfl sw1 rfl fun lit hlit slit => ?_
          try (dsimp only [st, setL, AV.cells, List.set_cons_zero, List.set_cons_succ, List.drop_zero, List.drop_succ_cons, List.take_zero, List.take_succ_cons, Nat.zero_add, Nat.add_zero, Nat.reduceAdd, List.cons_append, List.nil_append, List.eraseIdx_cons_zero, List.eraseIdx_cons_succ])
          refine W ?_
          refine LS_ap 2 rfl (fun h' HL => HL.rdI 0 rfl enV1 (by decide)) enV1 (by decide) (by simp) (by simp; omega) (by simp; omega) rfl rfl rfl fun w hw sw => ?_
          try (dsimp only [st, setL, AV.cells, List.set_cons_zero, List.set_cons_succ, List.drop_zero, List.drop_succ_cons, List.take_zero, List.take_succ_cons, Nat.zero_add, Nat.add_zero, Nat.reduceAdd, List.cons_append, List.nil_append, List.eraseIdx_cons_zero, List.eraseIdx_cons_succ])
          refine W ?_
          refine LIL_drop 1 (LIL_push [_] hul ?_)
          refine IH (k - 1) _ _ (by omega) ⟨w, i + 1, us ++ [w1], exJ rfl, by rw [toNat_succ h0, take_snoc g2]; rfl, by rw [toNat_succ h0]; simp [hus], by omega, by omega, hw, sw⟩
        · rw [List.take_of_length_le (by omega)] at hul ⊢
          refine RET fun h' HL => ?_
          try dsimp only [oneA]
          exact ⟨_, ⟨out, us, rfl, hul, by rw [lo, hul], so, rfl⟩, HL.sub (.cons_cons _ (List.Sublist.append (List.Sublist.refl _) (List.nil_sublist _)))⟩
    · have hn : ¬ (ll.length : Int) = p.n := by simpa using hc
      have hko : prOk p ll = false := by rw [prOk, decide_eq_false hn, Bool.false_and, Bool.and_false]
      rw [hko, prR_bad hko]
      refine RET fun h' HL => ?_
      try dsimp only [oneA]
      exact TupSS.none HL
  · have hko : prOk p ll = false := by rw [prOk, nt hc, Bool.false_and]
    rw [hko, prR_bad hko]
    refine RET fun h' HL => ?_
    try dsimp only [oneA]
    exact TupSS.none HL

theorem specRunP_ac (p : PlanM) (v : AV) (ll : List (List Int)) (w : AV) (vs : List AV) (h : AH) (hR : PlR h v p) (hw : PSm p) (hl : RdSS h w ll vs) (hll : ll.length ≤ 1048576) (hl1 : ∀ l ∈ ll, l.length ≤ 1048576) :
    AC Try.prog 27 [v, w] h (fun r h' => ∃ M, TupSS (prR p ll) (prOk p ll) r M ∧ Loq h h' M) := by
  have hR0 := hR
  have hvl := hl.outer.len
  rw [hl.len] at hvl
  obtain ⟨vt, vo, rfl, hs, ho⟩ := hR
  have hsl := hs.len
  have hol := ho.len
  refine e27 _ _ fun wf => ?_
  unfold c27
  refine LI_start wf ?_
  refine W ?_
  refine LS_bxn rfl (sc_cons rfl (sc_cons (rd_sc hs) (sc_cons (rd_sc ho) rfl))) fun b1 => ?_
  try (dsimp only [st, setL, AV.cells, List.set_cons_zero, List.set_cons_succ, List.drop_zero, List.drop_succ_cons, List.take_zero, List.take_succ_cons, Nat.zero_add, Nat.add_zero, Nat.reduceAdd, List.cons_append, List.nil_append, List.eraseIdx_cons_zero, List.eraseIdx_cons_succ])
  refine W ?_
  refine LS_c0 (fun h' HL wf => good_ac p _ h' (hR0.le HL.le) hw) rfl rfl ?_
  try (dsimp only [st, setL, AV.cells, List.set_cons_zero, List.set_cons_succ, List.drop_zero, List.drop_succ_cons, List.take_zero, List.take_succ_cons, Nat.zero_add, Nat.add_zero, Nat.reduceAdd, List.cons_append, List.nil_append, List.eraseIdx_cons_zero, List.eraseIdx_cons_succ])
  refine W ?_
  (first | refine LS_gt rfl ?_ ?_ | refine LS_gf rfl ?_ ?_ | refine LI_cond rfl ?_ ?_) <;> intro hc <;> have hc' := hc <;> try simp only [decide_eq_true_eq, decide_eq_false_iff_not, Bool.not_eq_true', Bool.not_eq_false', Bool.not_eq_true, Bool.not_eq_false, beq_iff_eq, bne_iff_ne, beq_eq_false_iff_ne, bne_eq_false_iff_eq, Int.not_lt, Int.not_le, ge_iff_le, gt_iff_lt, not_and, ne_eq, Decidable.not_not] at hc'
  all_goals (try (dsimp only [st, setL, AV.cells, List.set_cons_zero, List.set_cons_succ, List.drop_zero, List.drop_succ_cons, List.take_zero, List.take_succ_cons, Nat.zero_add, Nat.add_zero, Nat.reduceAdd, List.cons_append, List.nil_append, List.eraseIdx_cons_zero, List.eraseIdx_cons_succ]))
  all_goals (refine W ?_)
  · have hk := nf hc
    obtain ⟨h1, h2, h3, h4, hf, h6⟩ := planOk_out hk
    (first | refine LS_gt rfl ?_ ?_ | refine LS_gf rfl ?_ ?_ | refine LI_cond rfl ?_ ?_) <;> intro hc <;> have hc' := hc <;> try simp only [decide_eq_true_eq, decide_eq_false_iff_not, Bool.not_eq_true', Bool.not_eq_false', Bool.not_eq_true, Bool.not_eq_false, beq_iff_eq, bne_iff_ne, beq_eq_false_iff_ne, bne_eq_false_iff_eq, Int.not_lt, Int.not_le, ge_iff_le, gt_iff_lt, not_and, ne_eq, Decidable.not_not] at hc'
    all_goals (try (dsimp only [st, setL, AV.cells, List.set_cons_zero, List.set_cons_succ, List.drop_zero, List.drop_succ_cons, List.take_zero, List.take_succ_cons, Nat.zero_add, Nat.add_zero, Nat.reduceAdd, List.cons_append, List.nil_append, List.eraseIdx_cons_zero, List.eraseIdx_cons_succ]))
    all_goals (refine W ?_)
    · have hn : (ll.length : Int) = p.n := by simpa using hc
      refine LS_c0 (fun h' HL wf => moAlike_ac ll w vs h' (hl.le HL.le) hll hl1) rfl rfl ?_
      try (dsimp only [st, setL, AV.cells, List.set_cons_zero, List.set_cons_succ, List.drop_zero, List.drop_succ_cons, List.take_zero, List.take_succ_cons, Nat.zero_add, Nat.add_zero, Nat.reduceAdd, List.cons_append, List.nil_append, List.eraseIdx_cons_zero, List.eraseIdx_cons_succ])
      refine W ?_
      (first | refine LS_gt rfl ?_ ?_ | refine LS_gf rfl ?_ ?_ | refine LI_cond rfl ?_ ?_) <;> intro hc <;> have hc' := hc <;> try simp only [decide_eq_true_eq, decide_eq_false_iff_not, Bool.not_eq_true', Bool.not_eq_false', Bool.not_eq_true, Bool.not_eq_false, beq_iff_eq, bne_iff_ne, beq_eq_false_iff_ne, bne_eq_false_iff_eq, Int.not_lt, Int.not_le, ge_iff_le, gt_iff_lt, not_and, ne_eq, Decidable.not_not] at hc'
      all_goals (try (dsimp only [st, setL, AV.cells, List.set_cons_zero, List.set_cons_succ, List.drop_zero, List.drop_succ_cons, List.take_zero, List.take_succ_cons, Nat.zero_add, Nat.add_zero, Nat.reduceAdd, List.cons_append, List.nil_append, List.eraseIdx_cons_zero, List.eraseIdx_cons_succ]))
      all_goals (refine W ?_)
      · have hko : prOk p ll = false := by rw [prOk, nt hc, Bool.and_false, Bool.and_false]
        rw [hko, prR_bad hko]
        refine RET fun h' HL => ?_
        try dsimp only [oneA]
        exact TupSS.none HL
      · have ha : alikeOk ll = true := nf hc
        have hko : prOk p ll = true := by rw [prOk, hk, ha, decide_eq_true hn]; rfl
        have hob := outs_bd hko
        have hP := allP_of ha
        have hPr := runP_all hk hn hP
        have h8 : (r0 ll).length ≤ 8 := by
          have hm := alike_get ha (List.getElem_mem (show 0 < ll.length by omega))
          have := (isPerm_out hm.1).2.1
          omega
        rw [hko, prR, if_pos hko]
        refine LIL_nl (k := 1) ?_
        refine LIL_ind (fun k a L => ∃ (out : AV) (i : Int) (us : List AV), (∃ r : Nat → AV, a = [r 0, r 1, .p b1 0, r 3, r 4, r 5, out, r 7, r 8, r 9, r 10, r 11, r 12, r 13, r 14, r 15, r 16, r 17, r 18, r 19, r 20, r 21, r 22, r 23, r 24, r 25, r 26, r 27, r 28, w, .i .i64 ll.length, .i .i64 i, r 32, r 33, r 34, r 35, r 36, r 37, r 38, r 39, r 40, r 41, r 42, r 43, r 44, r 45, r 46, r 47, r 48, r 49, r 50, r 51, r 52, r 53, r 54, r 55, r 56, r 57, r 58, r 59, r 60, r 61, r 62, r 63, r 64, r 65, r 66, r 67, r 68, r 69, r 70, r 71, r 72, r 73, r 74, r 75, r 76, r 77, r 78, r 79]) ∧ L = .sl out 1 (us.flatMap enV) :: (rowsI us (ll.take i.toNat) ++ [.pt b1 [.i .i64 p.n, vt, vo]]) ∧ us.length = i.toNat ∧ 0 ≤ i ∧ i + k = ll.length ∧ lenA out = some us.length ∧ out.sc = true)
          ll.length ⟨.ns, 0, [], exJ rfl, rfl, rfl, by omega, by omega, rfl, rfl⟩ ?_
        rintro k a L ⟨out, i, us, ⟨r, rfl⟩, rfl, hus, h0, hk', lo, so⟩ IH
        have hul : us.length = (ll.take i.toNat).length := by rw [hus, List.length_take]; omega
        refine W ?_
        (first | refine LS_gt rfl ?_ ?_ | refine LS_gf rfl ?_ ?_ | refine LI_cond rfl ?_ ?_) <;> intro hc <;> have hc' := hc <;> try simp only [decide_eq_true_eq, decide_eq_false_iff_not, Bool.not_eq_true', Bool.not_eq_false', Bool.not_eq_true, Bool.not_eq_false, beq_iff_eq, bne_iff_ne, beq_eq_false_iff_ne, bne_eq_false_iff_eq, Int.not_lt, Int.not_le, ge_iff_le, gt_iff_lt, not_and, ne_eq, Decidable.not_not] at hc'
        all_goals (try (dsimp only [st, setL, AV.cells, List.set_cons_zero, List.set_cons_succ, List.drop_zero, List.drop_succ_cons, List.take_zero, List.take_succ_cons, Nat.zero_add, Nat.add_zero, Nat.reduceAdd, List.cons_append, List.nil_append, List.eraseIdx_cons_zero, List.eraseIdx_cons_succ]))
        all_goals (refine W ?_)
        · obtain ⟨x, hx, hxm, _⟩ := drop_at (l := ll) h0 hc'
          obtain ⟨u, hu, hru⟩ := hl.at_ hx
          refine LS_ix (fun h' HL => (hl.le HL.le).outer) enV1 hu h0 rfl rfl fun q2 o2 hrow2 => ?_
          try (dsimp only [st, setL, AV.cells, List.set_cons_zero, List.set_cons_succ, List.drop_zero, List.drop_succ_cons, List.take_zero, List.take_succ_cons, Nat.zero_add, Nat.add_zero, Nat.reduceAdd, List.cons_append, List.nil_append, List.eraseIdx_cons_zero, List.eraseIdx_cons_succ])
          refine W ?_
          refine LS_co (fun h' HL wf => l1Own_ac x u h' (hru.le HL.le) (hl1 x hxm)) enI1 rfl rfl fun w1 lw1 sw1 => ?_
          try (dsimp only [st, setL, AV.cells, List.set_cons_zero, List.set_cons_succ, List.drop_zero, List.drop_succ_cons, List.take_zero, List.take_succ_cons, Nat.zero_add, Nat.add_zero, Nat.reduceAdd, List.cons_append, List.nil_append, List.eraseIdx_cons_zero, List.eraseIdx_cons_succ])
          refine W ?_
          refine LS_ltV rfl rfl sw1 rfl fun lit hlit slit => ?_
          try (dsimp only [st, setL, AV.cells, List.set_cons_zero, List.set_cons_succ, List.drop_zero, List.drop_succ_cons, List.take_zero, List.take_succ_cons, Nat.zero_add, Nat.add_zero, Nat.reduceAdd, List.cons_append, List.nil_append, List.eraseIdx_cons_zero, List.eraseIdx_cons_succ])
          refine W ?_
          refine LS_ap 2 rfl (fun h' HL => HL.rdI 0 rfl enV1 (by decide)) enV1 (by decide) (by simp) (by simp; omega) (by simp; omega) rfl rfl rfl fun w hw sw => ?_
          try (dsimp only [st, setL, AV.cells, List.set_cons_zero, List.set_cons_succ, List.drop_zero, List.drop_succ_cons, List.take_zero, List.take_succ_cons, Nat.zero_add, Nat.add_zero, Nat.reduceAdd, List.cons_append, List.nil_append, List.eraseIdx_cons_zero, List.eraseIdx_cons_succ])
          refine W ?_
          refine LIL_drop 1 (LIL_push [_] hul ?_)
          refine IH (k - 1) _ _ (by omega) ⟨w, i + 1, us ++ [w1], exJ rfl, by rw [toNat_succ h0, take_snoc hx]; rfl, by rw [toNat_succ h0]; simp [hus], by omega, by omega, hw, sw⟩
        · rw [List.take_of_length_le (by omega)] at hul ⊢
          clear IH
          have hpm : List.Perm (It.sl out 1 (us.flatMap enV) :: (rowsI us ll ++ [It.pt b1 [.i .i64 p.n, vt, vo]])) (It.sl out 1 (us.flatMap enV) :: It.pt b1 [.i .i64 p.n, vt, vo] :: (rowsI us ll ++ [])) :=
            List.Perm.cons _ List.perm_middle
          refine LS_perm hpm (W ?_)
          generalize hLR0 : rowsI us ll ++ [] = LR0
          have hRo0 : RowsIn LR0 [] [] us ll := fun h0 h' HL _ => ⟨hul, fun i u q hu hq => HL.rdM (by rw [← hLR0]; exact List.mem_append_left _ (rowsI_get hu hq)) enI1 (by decide)⟩
          have hE : ∀ h', RowsRd h' [] [] := fun h' => ⟨rfl, fun i u l e => by simp at e⟩
          clear hLR0 hpm
          refine LIL_ind (fun n a L => ∃ (i : Int) (u : AV) (o : List AV) (ls : List (List Int)) (LR : List It), (∃ r : Nat → AV, a = [r 0, r 1, .p b1 0, r 3, r 4, r 5, u, r 7, r 8, r 9, r 10, r 11, r 12, r 13, r 14, r 15, r 16, r 17, r 18, r 19, r 20, r 21, r 22, r 23, r 24, r 25, r 26, r 27, r 28, r 29, r 30, r 31, r 32, r 33, r 34, r 35, r 36, r 37, r 38, r 39, r 40, r 41, vt, .i .i64 p.steps.length, .i .i64 i, r 45, r 46, r 47, r 48, r 49, r 50, r 51, r 52, r 53, r 54, r 55, r 56, r 57, r 58, r 59, r 60, r 61, r 62, r 63, r 64, r 65, r 66, r 67, r 68, r 69, r 70, r 71, r 72, r 73, r 74, r 75, r 76, r 77, r 78, r 79]) ∧ L = .sl u 1 (o.flatMap enV) :: .pt b1 [.i .i64 p.n, vt, vo] :: LR ∧ 0 ≤ i ∧ i + n = p.steps.length ∧ runM thenF p.steps ll = runM thenF (p.steps.drop i.toNat) ls ∧ (ls.length : Int) = p.n + i ∧ o.length = ls.length ∧ AllP (r0 ll).length ls ∧ RowsIn LR [] [] o ls)
            p.steps.length ⟨0, _, us, ll, LR0, exJ rfl, rfl, by omega, by omega, rfl, by omega, hul, hP, hRo0⟩ ?_
          rintro n a L ⟨i, u, o, ls, LR, ⟨r, rfl⟩, rfl, h0, hn', heq, hol', hoo, hPo, hRo⟩ IH
          refine W ?_
          (first | refine LS_gt rfl ?_ ?_ | refine LS_gf rfl ?_ ?_ | refine LI_cond rfl ?_ ?_) <;> intro hc <;> have hc' := hc <;> try simp only [decide_eq_true_eq, decide_eq_false_iff_not, Bool.not_eq_true', Bool.not_eq_false', Bool.not_eq_true, Bool.not_eq_false, beq_iff_eq, bne_iff_ne, beq_eq_false_iff_ne, bne_eq_false_iff_eq, Int.not_lt, Int.not_le, ge_iff_le, gt_iff_lt, not_and, ne_eq, Decidable.not_not] at hc'
          all_goals (try (dsimp only [st, setL, AV.cells, List.set_cons_zero, List.set_cons_succ, List.drop_zero, List.drop_succ_cons, List.take_zero, List.take_succ_cons, Nat.zero_add, Nat.add_zero, Nat.reduceAdd, List.cons_append, List.nil_append, List.eraseIdx_cons_zero, List.eraseIdx_cons_succ]))
          all_goals (refine W ?_)
          · obtain ⟨s, hs', _, hd⟩ := drop_at (l := p.steps) h0 hc'
            have hb := formedS_get hf hs'
            have l1 : s.1.toNat < ls.length := by omega
            have l2 : s.2.toNat < ls.length := by omega
            have g1 : ls[s.1.toNat]? = some ls[s.1.toNat] := List.getElem?_eq_getElem l1
            have g2 : ls[s.2.toNat]? = some ls[s.2.toNat] := List.getElem?_eq_getElem l2
            have p1 := hPo _ (List.getElem_mem l1)
            have p2 := hPo _ (List.getElem_mem l2)
            have k1 : o[s.1.toNat]? = some o[s.1.toNat] := List.getElem?_eq_getElem (by omega)
            have k2 : o[s.2.toNat]? = some o[s.2.toNat] := List.getElem?_eq_getElem (by omega)
            have e : runS thenF ls s = ls ++ [thenF ls[s.1.toNat] ls[s.2.toNat]] := by simp [runS, g1, g2]
            rw [hd, runM_cons, e] at heq
            generalize ls[s.1.toNat] = x at *
            generalize ls[s.2.toNat] = y at *
            generalize o[s.1.toNat] = ux at *
            generalize o[s.2.toNat] = uy at *
            have hT := thenF_P p1 p2
            have hrx : ∀ h', Loq h h' LR → Rd h' ux x := fun h' HL => (hRo h h' HL (hE h')).2 _ _ _ k1 g1
            have hry : ∀ h', Loq h h' LR → Rd h' uy y := fun h' HL => (hRo h h' HL (hE h')).2 _ _ _ k2 g2
            refine LS_ix (fun h' HL => hs.le HL.le) enStep2 hs' h0 rfl rfl fun q1 o1 hrow1 => ?_
            try (dsimp only [st, setL, AV.cells, List.set_cons_zero, List.set_cons_succ, List.drop_zero, List.drop_succ_cons, List.take_zero, List.take_succ_cons, Nat.zero_add, Nat.add_zero, Nat.reduceAdd, List.cons_append, List.nil_append, List.eraseIdx_cons_zero, List.eraseIdx_cons_succ])
            refine W ?_
            refine LS_al rfl fun b3 => ?_
            try (dsimp only [st, setL, AV.cells, List.set_cons_zero, List.set_cons_succ, List.drop_zero, List.drop_succ_cons, List.take_zero, List.take_succ_cons, Nat.zero_add, Nat.add_zero, Nat.reduceAdd, List.cons_append, List.nil_append, List.eraseIdx_cons_zero, List.eraseIdx_cons_succ])
            refine W ?_
            refine dz27_0 ?_
            refine WX ?_
            refine W ?_
            refine LX_ix (fun h' HL => HL.rdI 1 rfl enV1 (by decide)) enV1 k1 (by omega) rfl rfl noG fun q2 o2 hrow2 => ?_
            try (dsimp only [st, setL, AV.cells, List.set_cons_zero, List.set_cons_succ, List.drop_zero, List.drop_succ_cons, List.take_zero, List.take_succ_cons, Nat.zero_add, Nat.add_zero, Nat.reduceAdd, List.cons_append, List.nil_append, List.eraseIdx_cons_zero, List.eraseIdx_cons_succ])
            refine WX ?_
            refine W ?_
            refine LX_ix (fun h' HL => HL.rdI 1 rfl enV1 (by decide)) enV1 k2 (by omega) rfl rfl noG fun q3 o3 hrow3 => ?_
            try (dsimp only [st, setL, AV.cells, List.set_cons_zero, List.set_cons_succ, List.drop_zero, List.drop_succ_cons, List.take_zero, List.take_succ_cons, Nat.zero_add, Nat.add_zero, Nat.reduceAdd, List.cons_append, List.nil_append, List.eraseIdx_cons_zero, List.eraseIdx_cons_succ])
            refine WX ?_
            refine W ?_
            refine LX_co (fun h' HL wf => moThen_ac x y ux uy h'.frz (hrx h' HL.tail.tail.tail).frz (hry h' HL.tail.tail.tail).frz (by rw [p1.2]; omega) hT.2) enI1 rfl rfl noG fun w3 hw3 sw3 => ?_
            try (dsimp only [st, setL, AV.cells, List.set_cons_zero, List.set_cons_succ, List.drop_zero, List.drop_succ_cons, List.take_zero, List.take_succ_cons, Nat.zero_add, Nat.add_zero, Nat.reduceAdd, List.cons_append, List.nil_append, List.eraseIdx_cons_zero, List.eraseIdx_cons_succ])
            refine WX ?_
            refine W ?_
            refine LX_ltV rfl rfl sw3 rfl noG fun w4 hw4 sw4 => ?_
            try (dsimp only [st, setL, AV.cells, List.set_cons_zero, List.set_cons_succ, List.drop_zero, List.drop_succ_cons, List.take_zero, List.take_succ_cons, Nat.zero_add, Nat.add_zero, Nat.reduceAdd, List.cons_append, List.nil_append, List.eraseIdx_cons_zero, List.eraseIdx_cons_succ])
            refine WX ?_
            refine W ?_
            refine LX_f noG (LO_ap 3 rfl (fun h' HL => HL.rdI 0 rfl enV1 (by decide)) enV1 (by decide) (by simp) (by simp; omega) (by simp; omega) rfl rfl rfl fun w5 hw5 sw5 => ?_)
            try (dsimp only [st, setL, AV.cells, List.set_cons_zero, List.set_cons_succ, List.drop_zero, List.drop_succ_cons, List.take_zero, List.take_succ_cons, Nat.zero_add, Nat.add_zero, Nat.reduceAdd, List.cons_append, List.nil_append, List.eraseIdx_cons_zero, List.eraseIdx_cons_succ])
            refine WX ?_
            refine W ?_
            refine LIL_drop 1 (LIL_rot 3 rfl (LIL_rot 3 rfl ?_))
            refine IH (n - 1) _ _ (by omega) ⟨i + 1, _, _, _, _, exJ rfl, rfl, by omega, by omega, by rw [toNat_succ h0]; exact heq, by simp; omega, by simp [hoo], ?_, hRo.snoc⟩
            intro z hz
            rcases List.mem_append.1 hz with hz | hz
            · exact hPo z hz
            · rw [List.mem_singleton.1 hz]; exact hT.1
          · rw [List.drop_eq_nil_of_le (by omega)] at heq
            clear IH
            have hrr : runM thenF p.steps ll = ls := heq
            rw [hrr] at hob ⊢
            have hobo : ∀ i ∈ p.outs, 0 ≤ i ∧ i < o.length := by rw [hoo]; exact hob
            refine LIL_nl (k := 1) ?_
            refine LIL_ind (fun k a L => ∃ (out : AV) (i : Int) (us : List AV), (∃ r : Nat → AV, a = [r 0, r 1, r 2, r 3, r 4, r 5, u, r 7, r 8, r 9, r 10, out, r 12, r 13, r 14, r 15, r 16, r 17, r 18, r 19, r 20, r 21, r 22, r 23, r 24, r 25, r 26, r 27, r 28, r 29, r 30, r 31, r 32, r 33, r 34, r 35, r 36, r 37, r 38, r 39, r 40, r 41, r 42, r 43, r 44, r 45, r 46, r 47, r 48, r 49, r 50, r 51, r 52, r 53, r 54, r 55, r 56, r 57, r 58, r 59, r 60, r 61, r 62, r 63, vo, .i .i64 p.outs.length, .i .i64 i, r 67, r 68, r 69, r 70, r 71, r 72, r 73, r 74, r 75, r 76, r 77, r 78, r 79]) ∧ L = .sl out 1 (us.flatMap enV) :: (rowsI us ((pickM ls p.outs).take i.toNat) ++ (.sl u 1 (o.flatMap enV) :: .pt b1 [.i .i64 p.n, vt, vo] :: LR)) ∧ us.length = i.toNat ∧ 0 ≤ i ∧ i + k = p.outs.length ∧ lenA out = some us.length ∧ out.sc = true)
              p.outs.length ⟨.ns, 0, [], exJ rfl, rfl, rfl, by omega, by omega, rfl, rfl⟩ ?_
            rintro k a L ⟨out, i, us, ⟨r, rfl⟩, rfl, hus, h0, hk', lo, so⟩ IH
            have hrl := pickM_lenG hob
            have hul : us.length = ((pickM ls p.outs).take i.toNat).length := by rw [hus, List.length_take, hrl]; omega
            refine W ?_
            (first | refine LS_gt rfl ?_ ?_ | refine LS_gf rfl ?_ ?_ | refine LI_cond rfl ?_ ?_) <;> intro hc <;> have hc' := hc <;> try simp only [decide_eq_true_eq, decide_eq_false_iff_not, Bool.not_eq_true', Bool.not_eq_false', Bool.not_eq_true, Bool.not_eq_false, beq_iff_eq, bne_iff_ne, beq_eq_false_iff_ne, bne_eq_false_iff_eq, Int.not_lt, Int.not_le, ge_iff_le, gt_iff_lt, not_and, ne_eq, Decidable.not_not] at hc'
            all_goals (try (dsimp only [st, setL, AV.cells, List.set_cons_zero, List.set_cons_succ, List.drop_zero, List.drop_succ_cons, List.take_zero, List.take_succ_cons, Nat.zero_add, Nat.add_zero, Nat.reduceAdd, List.cons_append, List.nil_append, List.eraseIdx_cons_zero, List.eraseIdx_cons_succ]))
            all_goals (refine W ?_)
            · obtain ⟨y, hy, hym, _⟩ := drop_at (l := p.outs) h0 (by omega)
              have hyb := hob y hym
              have g1 : ls[y.toNat]? = some ls[y.toNat] := List.getElem?_eq_getElem (by omega)
              have k1 : o[y.toNat]? = some o[y.toNat] := List.getElem?_eq_getElem (by omega)
              have g2 := pickM_getG hob hy
              rw [g1] at g2
              have hpx := hPo _ (List.getElem_mem (show y.toNat < ls.length by omega))
              generalize ls[y.toNat] = x at *
              generalize o[y.toNat] = ux at *
              have hrx : ∀ h', Loq h h' (.sl out 1 (us.flatMap enV) :: (rowsI us ((pickM ls p.outs).take i.toNat) ++ (.sl u 1 (o.flatMap enV) :: .pt b1 [.i .i64 p.n, vt, vo] :: LR))) → Rd h' ux x := fun h' HL =>
                (hRo h h' (HL.sub (.cons _ (List.Sublist.trans (.cons _ (.cons _ (List.Sublist.refl _))) (List.sublist_append_right _ _)))) (hE h')).2 _ _ _ k1 g1
              refine LS_ix (fun h' HL => ho.le HL.le) enI1 hy h0 rfl rfl fun q1 o1 hrow1 => ?_
              try (dsimp only [st, setL, AV.cells, List.set_cons_zero, List.set_cons_succ, List.drop_zero, List.drop_succ_cons, List.take_zero, List.take_succ_cons, Nat.zero_add, Nat.add_zero, Nat.reduceAdd, List.cons_append, List.nil_append, List.eraseIdx_cons_zero, List.eraseIdx_cons_succ])
              refine W ?_
              refine LS_ix (fun h' HL => HL.rdM (List.mem_cons_of_mem _ (List.mem_append_right _ List.mem_cons_self)) enV1 (by decide)) enV1 k1 hyb.1 rfl rfl fun q2 o2 hrow2 => ?_
              try (dsimp only [st, setL, AV.cells, List.set_cons_zero, List.set_cons_succ, List.drop_zero, List.drop_succ_cons, List.take_zero, List.take_succ_cons, Nat.zero_add, Nat.add_zero, Nat.reduceAdd, List.cons_append, List.nil_append, List.eraseIdx_cons_zero, List.eraseIdx_cons_succ])
              refine W ?_
              refine LS_co (fun h' HL wf => l1Own_ac x ux h' (hrx h' HL) (by rw [hpx.2]; omega)) enI1 rfl rfl fun w1 lw1 sw1 => ?_
              try (dsimp only [st, setL, AV.cells, List.set_cons_zero, List.set_cons_succ, List.drop_zero, List.drop_succ_cons, List.take_zero, List.take_succ_cons, Nat.zero_add, Nat.add_zero, Nat.reduceAdd, List.cons_append, List.nil_append, List.eraseIdx_cons_zero, List.eraseIdx_cons_succ])
              refine W ?_
              refine LS_ltV rfl rfl sw1 rfl fun lit hlit slit => ?_
              try (dsimp only [st, setL, AV.cells, List.set_cons_zero, List.set_cons_succ, List.drop_zero, List.drop_succ_cons, List.take_zero, List.take_succ_cons, Nat.zero_add, Nat.add_zero, Nat.reduceAdd, List.cons_append, List.nil_append, List.eraseIdx_cons_zero, List.eraseIdx_cons_succ])
              refine W ?_
              refine LS_ap 2 rfl (fun h' HL => HL.rdI 0 rfl enV1 (by decide)) enV1 (by decide) (by simp) (by simp; omega) (by simp; omega) rfl rfl rfl fun w hw sw => ?_
              try (dsimp only [st, setL, AV.cells, List.set_cons_zero, List.set_cons_succ, List.drop_zero, List.drop_succ_cons, List.take_zero, List.take_succ_cons, Nat.zero_add, Nat.add_zero, Nat.reduceAdd, List.cons_append, List.nil_append, List.eraseIdx_cons_zero, List.eraseIdx_cons_succ])
              refine W ?_
              refine LIL_drop 1 (LIL_push [_] hul ?_)
              refine IH (k - 1) _ _ (by omega) ⟨w, i + 1, us ++ [w1], exJ rfl, by rw [toNat_succ h0, take_snoc g2]; rfl, by rw [toNat_succ h0]; simp [hus], by omega, by omega, hw, sw⟩
            · rw [List.take_of_length_le (by omega)] at hul ⊢
              refine RET fun h' HL => ?_
              try dsimp only [oneA]
              exact ⟨_, ⟨out, us, rfl, hul, by rw [lo, hul], so, rfl⟩, HL.sub (.cons_cons _ (List.Sublist.append (List.Sublist.refl _) (List.nil_sublist _)))⟩
    · have hn : ¬ (ll.length : Int) = p.n := by simpa using hc
      have hko : prOk p ll = false := by rw [prOk, decide_eq_false hn, Bool.false_and, Bool.and_false]
      rw [hko, prR_bad hko]
      refine RET fun h' HL => ?_
      try dsimp only [oneA]
      exact TupSS.none HL
  · have hko : prOk p ll = false := by rw [prOk, nt hc, Bool.false_and]
    rw [hko, prR_bad hko]
    refine RET fun h' HL => ?_
    try dsimp only [oneA]
    exact TupSS.none HL

/-! ### The law of RunPermutations -/
theorem rowsI_at : ∀ {us : List AV} {ll : List (List Int)} {i : Nat} {u : AV} {l : List Int}, us[i]? = some u → ll[i]? = some l → (rowsI us ll)[i]? = some (.sl u 1 (l.flatMap enI))
  | v :: us, k :: ll, 0, u, l, h1, h2 => by simp at h1 h2; subst h1; subst h2; rfl
  | v :: us, k :: ll, i + 1, u, l, h1, h2 => by simp only [rowsI, List.getElem?_cons_succ] at *; exact rowsI_at h1 h2
  | [], _, i, u, l, h1, _ => by simp at h1
  | _ :: _, [], i, u, l, _, h2 => by simp at h2

theorem rowsI_er : ∀ (us : List AV) (ll : List (List Int)) (i : Nat) (l : List Int), (rowsI us (ll.set i l)).eraseIdx i = (rowsI us ll).eraseIdx i
  | u :: us, k :: ll, 0, l => rfl
  | u :: us, k :: ll, i + 1, l => by simp only [List.set_cons_succ, rowsI, List.eraseIdx_cons_succ]; rw [rowsI_er us ll i l]
  | [], ll, i, l => by cases h : ll.set i l <;> cases ll <;> simp [rowsI]
  | _ :: _, [], i, l => by simp

theorem ssI_pick {v : AV} {us : List AV} {ll : List (List Int)} {i : Nat} {u : AV} {l : List Int} (h1 : us[i]? = some u) (h2 : ll[i]? = some l) (L : List It) : List.Perm (ssI v us ll ++ L) (It.sl u 1 (l.flatMap enI) :: (It.sl v 1 (us.flatMap enV) :: ((rowsI us ll).eraseIdx i ++ L))) := by
  simp only [ssI, List.append_nil, List.cons_append]
  refine List.Perm.trans (List.Perm.cons _ (List.Perm.append_right L (perm_erase _ i _ (rowsI_at h1 h2)))) ?_
  exact List.Perm.swap _ _ _

theorem markIntSSL_ac (ll : List (List Int)) (v : AV) (us : List AV) (k : Int) (h0 h : AH) (L : List It) (HL : Loq h0 h (ssI v us ll ++ L)) (hu : us.length = ll.length) (hk0 : 0 ≤ k) (hk1 : k + totL ll ≤ 4611686018427387904) (hll : ll.length ≤ 4611686018427387904) :
    AC Try.prog 32 [v, .i .i64 k] h (fun r h' => ∃ M, (r = .i .i64 (k + totL ll) ∧ M = ssI v us (markSS k ll) ++ L) ∧ Loq h0 h' M) := by
  have hvl := (ssI_rd [] L HL hu).outer.len
  rw [hu] at hvl
  refine e32 _ _ fun wf => ?_
  unfold c32
  refine LI_startL HL ?_
  refine W ?_
  refine LIL_ind (fun n a M => ∃ (i kk : Int), (∃ r : Nat → AV, a = [v, .i .i64 kk, r 2, r 3, r 4, .i .i64 i, r 6, r 7, r 8, r 9, r 10, r 11, r 12, r 13, r 14, r 15, r 16, r 17, r 18]) ∧ M = ssI v us (markSS k (ll.take i.toNat) ++ ll.drop i.toNat) ++ L ∧ 0 ≤ i ∧ i + n = ll.length ∧ kk = k + totL (ll.take i.toNat))
    ll.length ⟨0, k, exJ rfl, by simp [markSS], by omega, by omega, by simp [totL]⟩ ?_
  rintro n a M ⟨i, kk, ⟨r, rfl⟩, rfl, h0', hn, hkk⟩ IH
  have hA : (markSS k (ll.take i.toNat)).length = i.toNat := by rw [markSS_len]; simp; omega
  have hsp := totL_split ll i.toNat
  have hnn1 := totL_nn (ll.take i.toNat)
  have hul : us.length = (markSS k (ll.take i.toNat) ++ ll.drop i.toNat).length := by rw [List.length_append, hA, List.length_drop]; omega
  refine W ?_
  (first | refine LS_gt rfl ?_ ?_ | refine LS_gf rfl ?_ ?_ | refine LI_cond rfl ?_ ?_) <;> intro hc <;> have hc' := hc <;> try simp only [decide_eq_true_eq, decide_eq_false_iff_not, Bool.not_eq_true', Bool.not_eq_false', Bool.not_eq_true, Bool.not_eq_false, beq_iff_eq, bne_iff_ne, beq_eq_false_iff_ne, bne_eq_false_iff_eq, Int.not_lt, Int.not_le, ge_iff_le, gt_iff_lt, not_and, ne_eq, Decidable.not_not] at hc'
  all_goals (try (dsimp only [st, setL, AV.cells, List.set_cons_zero, List.set_cons_succ, List.drop_zero, List.drop_succ_cons, List.take_zero, List.take_succ_cons, Nat.zero_add, Nat.add_zero, Nat.reduceAdd, List.cons_append, List.nil_append, List.eraseIdx_cons_zero, List.eraseIdx_cons_succ]))
  all_goals (refine W ?_)
  · obtain ⟨l, hl, hm, hd⟩ := drop_at (l := ll) h0' hc'
    obtain ⟨u, hu'⟩ : ∃ u, us[i.toNat]? = some u := ⟨_, List.getElem?_eq_getElem (by omega)⟩
    have hdt := totL_drop hd
    have hnn2 := totL_nn (ll.drop (i.toNat + 1))
    have hg : (markSS k (ll.take i.toNat) ++ ll.drop i.toNat)[i.toNat]? = some l := by rw [List.getElem?_append_right (by omega), hA, Nat.sub_self, hd]; rfl
    refine LS_ix (fun h' HL => (ssI_rd [] L HL hul).outer) enV1 hu' h0' rfl rfl fun q2 o2 hrow2 => ?_
    try (dsimp only [st, setL, AV.cells, List.set_cons_zero, List.set_cons_succ, List.drop_zero, List.drop_succ_cons, List.take_zero, List.take_succ_cons, Nat.zero_add, Nat.add_zero, Nat.reduceAdd, List.cons_append, List.nil_append, List.eraseIdx_cons_zero, List.eraseIdx_cons_succ])
    refine W ?_
    refine LS_cm (ssI_pick hu' hg L) (fun h' HL wf => markIntSL_ac l u kk h0 h' _ HL (by omega) (by omega)) rfl rfl ?_
    try (dsimp only [st, setL, AV.cells, List.set_cons_zero, List.set_cons_succ, List.drop_zero, List.drop_succ_cons, List.take_zero, List.take_succ_cons, Nat.zero_add, Nat.add_zero, Nat.reduceAdd, List.cons_append, List.nil_append, List.eraseIdx_cons_zero, List.eraseIdx_cons_succ])
    refine W ?_
    rintro _ _ ⟨rfl, rfl⟩
    try (dsimp only [st, setL, AV.cells, List.set_cons_zero, List.set_cons_succ, List.drop_zero, List.drop_succ_cons, List.take_zero, List.take_succ_cons, Nat.zero_add, Nat.add_zero, Nat.reduceAdd, List.cons_append, List.nil_append, List.eraseIdx_cons_zero, List.eraseIdx_cons_succ])
    refine W ?_
    have hset : (markSS k (ll.take i.toNat) ++ ll.drop i.toNat).set i.toNat (markL kk l.length) = markSS k (ll.take (i + 1).toNat) ++ ll.drop (i + 1).toNat := by
      rw [set_mid hA hd, hkk, ← markSS_snoc, ← take_snoc hl, toNat_succ h0']
    have hp2 := ssI_pick (v := v) (L := L) hu' (show ((markSS k (ll.take i.toNat) ++ ll.drop i.toNat).set i.toNat (markL kk l.length))[i.toNat]? = some (markL kk l.length) from List.getElem?_set_self (by omega))
    rw [rowsI_er, hset] at hp2
    refine LIL_perm hp2.symm ?_
    refine IH (n - 1) _ _ (by omega) ⟨i + 1, _, exJ rfl, rfl, by omega, by omega, ?_⟩
    rw [toNat_succ h0', take_snoc hl, totL_snoc, hkk, Int.add_assoc]
  · have e : i.toNat = ll.length := by omega
    rw [e, List.drop_length, List.append_nil, List.take_length]
    rw [e, List.take_length] at hkk
    refine RET fun h' HL => ?_
    try dsimp only [oneA]
    exact ⟨_, ⟨by rw [hkk], rfl⟩, HL⟩

theorem ssI_mem {h0 h : AH} {L : List It} {v : AV} {us : List AV} {ll : List (List Int)} (H : Loq h0 h L) (hs : ∀ x ∈ ssI v us ll, x ∈ L) (hl : us.length = ll.length) : RdSS h v ll us :=
  H.ss (hs _ List.mem_cons_self) (fun x hx => hs x (List.mem_cons_of_mem _ (List.mem_append_left _ hx))) hl

theorem plr_mem {h0 h : AH} {L : List It} {p : PlanM} {vs vo : AV} (H : Loq h0 h L) (h1 : It.sl vs 2 (p.steps.flatMap enStep) ∈ L) (h2 : It.sl vo 1 (p.outs.flatMap enI) ∈ L) : PlR h (.agg [.i .i64 p.n, vs, vo]) p :=
  ⟨vs, vo, rfl, H.rdM h1 enStep2 (by decide), H.rdM h2 enI1 (by decide)⟩

theorem perm3 (A : List It) (x y z : It) (B : List It) : List.Perm (A ++ (x :: y :: z :: B)) (x :: y :: z :: (A ++ B)) := List.perm_append_comm_assoc A [x, y, z] B

theorem totL_bd8 {ll : List (List Int)} (h1 : ll.length ≤ 6) (h2 : ∀ l ∈ ll, l.length ≤ 8) : totL ll ≤ 48 := by
  have H : ∀ (ll : List (List Int)), (∀ l ∈ ll, l.length ≤ 8) → totL ll ≤ 8 * ll.length := by
    intro ll
    induction ll with
    | nil => intro _; simp [totL]
    | cons l ll ih =>
      intro h
      have := ih fun x hx => h x (by simp [hx])
      have := h l (by simp)
      simp only [totL, List.length_cons]
      omega
  have := H ll h2
  omega

theorem lawFnExactRunPermutations_ac (p : PlanM) (v : AV) (ll : List (List Int)) (w : AV) (vs : List AV) (h : AH) (hR : PlR h v p) (hw0 : p.wf) (hl : RdSS h w ll vs) (hw1 : ∀ r ∈ ll, r.length ≤ maxLen ∧ ∀ n ∈ r, (Lit.int .i64 n).wf = true) (hm0 : ll.length ≤ maxLen) :
    AC Try.prog 5 [v, w] h (fun r h' => r = .b true) := by
  have hmx : maxLen ≤ 9223372036854775807 := by decide
  have hll0 : ll.length ≤ 9223372036854775807 := Nat.le_trans hm0 hmx
  have hl0 : ∀ l ∈ ll, l.length ≤ 9223372036854775807 := fun l hl => Nat.le_trans (hw1 l hl).1 hmx
  have hR0 := hR
  obtain ⟨vt, vo, rfl, hs, ho⟩ := hR
  obtain ⟨hr6, hr8⟩ := prR_bdd (p := p) (ll := ll)
  have htr := totL_bd8 hr6 hr8
  have hnr := totL_nn (prR p ll)
  have hr6' : (prR p ll).length ≤ 4611686018427387904 := by omega
  have hr8' : ∀ l ∈ prR p ll, l.length ≤ 4611686018427387904 := fun l hm => by have := hr8 l hm; omega
  refine e5 _ _ fun wf => ?_
  unfold c5
  refine LI_start wf ?_
  refine W ?_
  refine LS_bxn rfl (sc_cons rfl (sc_cons (rd_sc hs) (sc_cons (rd_sc ho) rfl))) fun b1 => ?_
  try (dsimp only [st, setL, AV.cells, List.set_cons_zero, List.set_cons_succ, List.drop_zero, List.drop_succ_cons, List.take_zero, List.take_succ_cons, Nat.zero_add, Nat.add_zero, Nat.reduceAdd, List.cons_append, List.nil_append, List.eraseIdx_cons_zero, List.eraseIdx_cons_succ])
  refine LS_ag rfl ?_
  try (dsimp only [st, setL, AV.cells, List.set_cons_zero, List.set_cons_succ, List.drop_zero, List.drop_succ_cons, List.take_zero, List.take_succ_cons, Nat.zero_add, Nat.add_zero, Nat.reduceAdd, List.cons_append, List.nil_append, List.eraseIdx_cons_zero, List.eraseIdx_cons_succ])
  refine LS_nil (LThen_n (LI_base fun h1 HL1 => ?_))
  have hb1 : h1.row b1 0 3 = some [.i .i64 p.n, vt, vo] := HL1.rowsP 0 rfl (Nat.le_refl 3) rfl
  have hR1 := hR0.le HL1.le
  have hl1 := hl.le HL1.le
  clear HL1
  refine W ?_
  refine LS_cq (fun h' HL wf => szPlanB_ac p _ 1048576 h' (hR1.le HL.le) (by omega) (by omega) hw0.ls hw0.lo) rfl rfl ?_
  try (dsimp only [st, setL, AV.cells, List.set_cons_zero, List.set_cons_succ, List.drop_zero, List.drop_succ_cons, List.take_zero, List.take_succ_cons, Nat.zero_add, Nat.add_zero, Nat.reduceAdd, List.cons_append, List.nil_append, List.eraseIdx_cons_zero, List.eraseIdx_cons_succ])
  refine W ?_
  rintro _ ⟨z, rfl, hz1, hz⟩
  try (dsimp only [st, setL, AV.cells, List.set_cons_zero, List.set_cons_succ, List.drop_zero, List.drop_succ_cons, List.take_zero, List.take_succ_cons, Nat.zero_add, Nat.add_zero, Nat.reduceAdd, List.cons_append, List.nil_append, List.eraseIdx_cons_zero, List.eraseIdx_cons_succ])
  refine W ?_
  (first | refine LS_gt rfl ?_ ?_ | refine LS_gf rfl ?_ ?_ | refine LI_cond rfl ?_ ?_) <;> intro hc <;> have hc' := hc <;> try simp only [decide_eq_true_eq, decide_eq_false_iff_not, Bool.not_eq_true', Bool.not_eq_false', Bool.not_eq_true, Bool.not_eq_false, beq_iff_eq, bne_iff_ne, beq_eq_false_iff_ne, bne_eq_false_iff_eq, Int.not_lt, Int.not_le, ge_iff_le, gt_iff_lt, not_and, ne_eq, Decidable.not_not] at hc'
  all_goals (try (dsimp only [st, setL, AV.cells, List.set_cons_zero, List.set_cons_succ, List.drop_zero, List.drop_succ_cons, List.take_zero, List.take_succ_cons, Nat.zero_add, Nat.add_zero, Nat.reduceAdd, List.cons_append, List.nil_append, List.eraseIdx_cons_zero, List.eraseIdx_cons_succ]))
  all_goals (refine W ?_)
  · refine RET fun h' HL => ?_
    try dsimp only [oneA]
  · have hw := psm_of hw0 hz hc'
    have hz0 := hc'
    refine LS_cq (fun h' HL wf => (szIntSS_ac ll w vs z h' (hl1.le HL.le) (by omega) (by omega) hll0 hl0).mono fun r h'' ⟨e1, e2⟩ => ⟨e1, by rw [e2]; exact .refl _⟩) rfl rfl ?_
    try (dsimp only [st, setL, AV.cells, List.set_cons_zero, List.set_cons_succ, List.drop_zero, List.drop_succ_cons, List.take_zero, List.take_succ_cons, Nat.zero_add, Nat.add_zero, Nat.reduceAdd, List.cons_append, List.nil_append, List.eraseIdx_cons_zero, List.eraseIdx_cons_succ])
    refine W ?_
    rintro _ ⟨z2, rfl, hz2⟩
    try (dsimp only [st, setL, AV.cells, List.set_cons_zero, List.set_cons_succ, List.drop_zero, List.drop_succ_cons, List.take_zero, List.take_succ_cons, Nat.zero_add, Nat.add_zero, Nat.reduceAdd, List.cons_append, List.nil_append, List.eraseIdx_cons_zero, List.eraseIdx_cons_succ])
    refine W ?_
    (first | refine LS_gt rfl ?_ ?_ | refine LS_gf rfl ?_ ?_ | refine LI_cond rfl ?_ ?_) <;> intro hc <;> have hc' := hc <;> try simp only [decide_eq_true_eq, decide_eq_false_iff_not, Bool.not_eq_true', Bool.not_eq_false', Bool.not_eq_true, Bool.not_eq_false, beq_iff_eq, bne_iff_ne, beq_eq_false_iff_ne, bne_eq_false_iff_eq, Int.not_lt, Int.not_le, ge_iff_le, gt_iff_lt, not_and, ne_eq, Decidable.not_not] at hc'
    all_goals (try (dsimp only [st, setL, AV.cells, List.set_cons_zero, List.set_cons_succ, List.drop_zero, List.drop_succ_cons, List.take_zero, List.take_succ_cons, Nat.zero_add, Nat.add_zero, Nat.reduceAdd, List.cons_append, List.nil_append, List.eraseIdx_cons_zero, List.eraseIdx_cons_succ]))
    all_goals (refine W ?_)
    · refine RET fun h' HL => ?_
      try dsimp only [oneA]
    · have hz' := hz2 hc'
      have hnn := totL_nn ll
      have hll : ll.length ≤ 1048576 := by omega
      have hll1 : ∀ l ∈ ll, l.length ≤ 1048576 := fun l hm => by have := totL_mem hm; omega
      have hll2 : ∀ l ∈ ll, l.length ≤ 4611686018427387904 := fun l hm => by have := hll1 l hm; omega
      have hls := hw.ls
      have hlo := hw.lo
      refine LS_c1 (fun h' HL wf => toPlanX_ac p _ h' (hR1.le HL.le) hw) rfl rfl ?_
      try (dsimp only [st, setL, AV.cells, List.set_cons_zero, List.set_cons_succ, List.drop_zero, List.drop_succ_cons, List.take_zero, List.take_succ_cons, Nat.zero_add, Nat.add_zero, Nat.reduceAdd, List.cons_append, List.nil_append, List.eraseIdx_cons_zero, List.eraseIdx_cons_succ])
      refine W ?_
      rintro _ _ ⟨vs1, vo1, ⟨rfl, l1, l2, s1, s2⟩, rfl⟩
      try (dsimp only [st, setL, AV.cells, List.set_cons_zero, List.set_cons_succ, List.drop_zero, List.drop_succ_cons, List.take_zero, List.take_succ_cons, Nat.zero_add, Nat.add_zero, Nat.reduceAdd, List.cons_append, List.nil_append, List.eraseIdx_cons_zero, List.eraseIdx_cons_succ])
      refine W ?_
      refine LS_c1 (fun h' HL wf => toIntSSI_ac ll w vs h' (hl1.le HL.le) hll hll1) rfl rfl ?_
      try (dsimp only [st, setL, AV.cells, List.set_cons_zero, List.set_cons_succ, List.drop_zero, List.drop_succ_cons, List.take_zero, List.take_succ_cons, Nat.zero_add, Nat.add_zero, Nat.reduceAdd, List.cons_append, List.nil_append, List.eraseIdx_cons_zero, List.eraseIdx_cons_succ])
      refine W ?_
      rintro x1 _ ⟨u1, hu1, lx1, sx1, rfl⟩
      try (dsimp only [st, setL, AV.cells, List.set_cons_zero, List.set_cons_succ, List.drop_zero, List.drop_succ_cons, List.take_zero, List.take_succ_cons, Nat.zero_add, Nat.add_zero, Nat.reduceAdd, List.cons_append, List.nil_append, List.eraseIdx_cons_zero, List.eraseIdx_cons_succ])
      refine W ?_
      refine LS_c1 (fun h' HL wf => specRunP_ac p _ ll x1 u1 h' (plr_mem HL (by simp) (by simp)) hw (ssI_rd [] _ HL hu1) hll hll1) rfl rfl ?_
      try (dsimp only [st, setL, AV.cells, List.set_cons_zero, List.set_cons_succ, List.drop_zero, List.drop_succ_cons, List.take_zero, List.take_succ_cons, Nat.zero_add, Nat.add_zero, Nat.reduceAdd, List.cons_append, List.nil_append, List.eraseIdx_cons_zero, List.eraseIdx_cons_succ])
      refine W ?_
      rintro _ _ ⟨w0, u0, rfl, hu0, lw0, sw0, rfl⟩
      try (dsimp only [st, setL, AV.cells, List.set_cons_zero, List.set_cons_succ, List.drop_zero, List.drop_succ_cons, List.take_zero, List.take_succ_cons, Nat.zero_add, Nat.add_zero, Nat.reduceAdd, List.cons_append, List.nil_append, List.eraseIdx_cons_zero, List.eraseIdx_cons_succ])
      refine LS_sub (List.sublist_append_left _ _) (W ?_)
      refine LS_c1 (fun h' HL wf => toPlanX_ac p _ h' (hR1.le HL.le) hw) rfl rfl ?_
      try (dsimp only [st, setL, AV.cells, List.set_cons_zero, List.set_cons_succ, List.drop_zero, List.drop_succ_cons, List.take_zero, List.take_succ_cons, Nat.zero_add, Nat.add_zero, Nat.reduceAdd, List.cons_append, List.nil_append, List.eraseIdx_cons_zero, List.eraseIdx_cons_succ])
      refine W ?_
      rintro _ _ ⟨vs2, vo2, ⟨rfl, l3, l4, s3, s4⟩, rfl⟩
      try (dsimp only [st, setL, AV.cells, List.set_cons_zero, List.set_cons_succ, List.drop_zero, List.drop_succ_cons, List.take_zero, List.take_succ_cons, Nat.zero_add, Nat.add_zero, Nat.reduceAdd, List.cons_append, List.nil_append, List.eraseIdx_cons_zero, List.eraseIdx_cons_succ])
      refine W ?_
      refine LS_al rfl fun b2 => ?_
      try (dsimp only [st, setL, AV.cells, List.set_cons_zero, List.set_cons_succ, List.drop_zero, List.drop_succ_cons, List.take_zero, List.take_succ_cons, Nat.zero_add, Nat.add_zero, Nat.reduceAdd, List.cons_append, List.nil_append, List.eraseIdx_cons_zero, List.eraseIdx_cons_succ])
      refine W ?_
      refine LS_c1 (fun h' HL wf => toIntSSI_ac ll w vs h' (hl1.le HL.le) hll hll1) rfl rfl ?_
      try (dsimp only [st, setL, AV.cells, List.set_cons_zero, List.set_cons_succ, List.drop_zero, List.drop_succ_cons, List.take_zero, List.take_succ_cons, Nat.zero_add, Nat.add_zero, Nat.reduceAdd, List.cons_append, List.nil_append, List.eraseIdx_cons_zero, List.eraseIdx_cons_succ])
      refine W ?_
      rintro y1 _ ⟨uy, huy, ly1, sy1, rfl⟩
      try (dsimp only [st, setL, AV.cells, List.set_cons_zero, List.set_cons_succ, List.drop_zero, List.drop_succ_cons, List.take_zero, List.take_succ_cons, Nat.zero_add, Nat.add_zero, Nat.reduceAdd, List.cons_append, List.nil_append, List.eraseIdx_cons_zero, List.eraseIdx_cons_succ])
      refine LS_perm (perm3 _ _ _ _ _) (W ?_)
      refine LS_c1 (fun h' HL wf => implRunP_ac p _ ll y1 uy h' (plr_of HL 1 2 rfl rfl) hw (ssI_rd [_, _, _] _ HL huy) hll hll1) rfl rfl ?_
      try (dsimp only [st, setL, AV.cells, List.set_cons_zero, List.set_cons_succ, List.drop_zero, List.drop_succ_cons, List.take_zero, List.take_succ_cons, Nat.zero_add, Nat.add_zero, Nat.reduceAdd, List.cons_append, List.nil_append, List.eraseIdx_cons_zero, List.eraseIdx_cons_succ])
      refine W ?_
      rintro _ _ ⟨g0, ug, rfl, hug, lg0, sg0, rfl⟩
      try (dsimp only [st, setL, AV.cells, List.set_cons_zero, List.set_cons_succ, List.drop_zero, List.drop_succ_cons, List.take_zero, List.take_succ_cons, Nat.zero_add, Nat.add_zero, Nat.reduceAdd, List.cons_append, List.nil_append, List.eraseIdx_cons_zero, List.eraseIdx_cons_succ])
      refine LS_perm (perm3 _ _ _ _ _) (W ?_)
      refine LS_c0' (fun h' HL wf => eqIntSS_same (prR p ll) g0 w0 ug u0 h' (ssI_rd [_, _, _] _ HL hug) (ssI_mem HL (fun x hx => by simp [hx]) hu0) hr6' hr8') rfl rfl ?_
      try (dsimp only [st, setL, AV.cells, List.set_cons_zero, List.set_cons_succ, List.drop_zero, List.drop_succ_cons, List.take_zero, List.take_succ_cons, Nat.zero_add, Nat.add_zero, Nat.reduceAdd, List.cons_append, List.nil_append, List.eraseIdx_cons_zero, List.eraseIdx_cons_succ])
      refine W ?_
      first | (refine LS_gtnH rfl (by simp) ?_; intro hg; try (dsimp only [st, setL, AV.cells, List.set_cons_zero, List.set_cons_succ, List.drop_zero, List.drop_succ_cons, List.take_zero, List.take_succ_cons, Nat.zero_add, Nat.add_zero, Nat.reduceAdd, List.cons_append, List.nil_append, List.eraseIdx_cons_zero, List.eraseIdx_cons_succ])) | (refine LS_gfnH rfl (by simp) ?_; intro hg; try (dsimp only [st, setL, AV.cells, List.set_cons_zero, List.set_cons_succ, List.drop_zero, List.drop_succ_cons, List.take_zero, List.take_succ_cons, Nat.zero_add, Nat.add_zero, Nat.reduceAdd, List.cons_append, List.nil_append, List.eraseIdx_cons_zero, List.eraseIdx_cons_succ])) | (refine LI_cond_fH rfl (by simp) ?_; intro hg)
      refine W ?_
      refine dz5_0 ?_
      refine WX ?_
      refine W ?_
      refine LX_c1 (fun h' HL wf => toPlanX_ac p _ h'.frz (hR1.le HL.le).frz hw) rfl rfl noG ?_
      try (dsimp only [st, setL, AV.cells, List.set_cons_zero, List.set_cons_succ, List.drop_zero, List.drop_succ_cons, List.take_zero, List.take_succ_cons, Nat.zero_add, Nat.add_zero, Nat.reduceAdd, List.cons_append, List.nil_append, List.eraseIdx_cons_zero, List.eraseIdx_cons_succ])
      refine WX ?_
      refine W ?_
      rintro _ _ ⟨vs3, vo3, ⟨rfl, l5, l6, s5, s6⟩, rfl⟩
      try (dsimp only [st, setL, AV.cells, List.set_cons_zero, List.set_cons_succ, List.drop_zero, List.drop_succ_cons, List.take_zero, List.take_succ_cons, Nat.zero_add, Nat.add_zero, Nat.reduceAdd, List.cons_append, List.nil_append, List.eraseIdx_cons_zero, List.eraseIdx_cons_succ])
      refine WX ?_
      refine LX_c0 (fun h' HL wf => eqPlan_same p _ _ h'.frz (plr_of HL 3 4 rfl rfl).frz (plr_of HL 0 1 rfl rfl).frz hw.ls hw.lo) rfl rfl noG ?_
      try (dsimp only [st, setL, AV.cells, List.set_cons_zero, List.set_cons_succ, List.drop_zero, List.drop_succ_cons, List.take_zero, List.take_succ_cons, Nat.zero_add, Nat.add_zero, Nat.reduceAdd, List.cons_append, List.nil_append, List.eraseIdx_cons_zero, List.eraseIdx_cons_succ])
      refine WX ?_
      refine W ?_
      refine LS_drop 2 ?_
      refine LS_c1 (fun h' HL wf => toIntSSI_ac ll w vs h' (hl1.le HL.le) hll hll1) rfl rfl ?_
      try (dsimp only [st, setL, AV.cells, List.set_cons_zero, List.set_cons_succ, List.drop_zero, List.drop_succ_cons, List.take_zero, List.take_succ_cons, Nat.zero_add, Nat.add_zero, Nat.reduceAdd, List.cons_append, List.nil_append, List.eraseIdx_cons_zero, List.eraseIdx_cons_succ])
      refine W ?_
      rintro z1 _ ⟨uz, huz, lz1, sz1, rfl⟩
      try (dsimp only [st, setL, AV.cells, List.set_cons_zero, List.set_cons_succ, List.drop_zero, List.drop_succ_cons, List.take_zero, List.take_succ_cons, Nat.zero_add, Nat.add_zero, Nat.reduceAdd, List.cons_append, List.nil_append, List.eraseIdx_cons_zero, List.eraseIdx_cons_succ])
      refine W ?_
      refine LS_c0' (fun h' HL wf => eqIntSS_same ll y1 z1 uy uz h' (ssI_mem HL (fun x hx => by simp [hx]) huy) (ssI_rd [] _ HL huz) (by omega) hll2) rfl rfl ?_
      try (dsimp only [st, setL, AV.cells, List.set_cons_zero, List.set_cons_succ, List.drop_zero, List.drop_succ_cons, List.take_zero, List.take_succ_cons, Nat.zero_add, Nat.add_zero, Nat.reduceAdd, List.cons_append, List.nil_append, List.eraseIdx_cons_zero, List.eraseIdx_cons_succ])
      refine W ?_
      try ((first | (refine LS_gtnH rfl (by simp) ?_; intro hg; try (dsimp only [st, setL, AV.cells, List.set_cons_zero, List.set_cons_succ, List.drop_zero, List.drop_succ_cons, List.take_zero, List.take_succ_cons, Nat.zero_add, Nat.add_zero, Nat.reduceAdd, List.cons_append, List.nil_append, List.eraseIdx_cons_zero, List.eraseIdx_cons_succ])) | (refine LS_gfnH rfl (by simp) ?_; intro hg; try (dsimp only [st, setL, AV.cells, List.set_cons_zero, List.set_cons_succ, List.drop_zero, List.drop_succ_cons, List.take_zero, List.take_succ_cons, Nat.zero_add, Nat.add_zero, Nat.reduceAdd, List.cons_append, List.nil_append, List.eraseIdx_cons_zero, List.eraseIdx_cons_succ])) | (refine LI_cond_fH rfl (by simp) ?_; intro hg)); refine W ?_)
      refine LS_sub (List.sublist_append_right _ _) (W ?_)
      refine LS_rot 2 rfl (LS_rot 2 rfl ?_)
      refine LS_cm (.refl _) (fun h' HL wf => markPlan_ac p vs2 vo2 1 h1 h' _ HL (by omega) (by omega)) rfl rfl ?_
      try (dsimp only [st, setL, AV.cells, List.set_cons_zero, List.set_cons_succ, List.drop_zero, List.drop_succ_cons, List.take_zero, List.take_succ_cons, Nat.zero_add, Nat.add_zero, Nat.reduceAdd, List.cons_append, List.nil_append, List.eraseIdx_cons_zero, List.eraseIdx_cons_succ])
      refine W ?_
      rintro _ _ ⟨rfl, rfl⟩
      try (dsimp only [st, setL, AV.cells, List.set_cons_zero, List.set_cons_succ, List.drop_zero, List.drop_succ_cons, List.take_zero, List.take_succ_cons, Nat.zero_add, Nat.add_zero, Nat.reduceAdd, List.cons_append, List.nil_append, List.eraseIdx_cons_zero, List.eraseIdx_cons_succ])
      refine W ?_
      refine LS_drop 3 (LS_perm (List.perm_append_comm_assoc _ _ _) ?_)
      refine LS_cm (.refl _) (fun h' HL wf => markIntSSL_ac ll y1 uy _ h1 h' _ HL huy (by omega) (by omega) (by omega)) rfl rfl ?_
      try (dsimp only [st, setL, AV.cells, List.set_cons_zero, List.set_cons_succ, List.drop_zero, List.drop_succ_cons, List.take_zero, List.take_succ_cons, Nat.zero_add, Nat.add_zero, Nat.reduceAdd, List.cons_append, List.nil_append, List.eraseIdx_cons_zero, List.eraseIdx_cons_succ])
      refine W ?_
      rintro _ _ ⟨rfl, rfl⟩
      try (dsimp only [st, setL, AV.cells, List.set_cons_zero, List.set_cons_succ, List.drop_zero, List.drop_succ_cons, List.take_zero, List.take_succ_cons, Nat.zero_add, Nat.add_zero, Nat.reduceAdd, List.cons_append, List.nil_append, List.eraseIdx_cons_zero, List.eraseIdx_cons_succ])
      refine LS_sub (List.sublist_append_right _ _) (W ?_)
      first | (refine LS_gyH rfl (by simp; omega) ?_; intro hg) | (refine LI_cond_tH rfl (by simp; omega) ?_; intro hg)
      refine W ?_
      refine LS_c0' (fun h' HL wf => eqIntSS_same (prR p ll) g0 w0 ug u0 h' (ssI_rd [] _ HL hug) (ssI_mem HL (fun x hx => by simp [hx]) hu0) hr6' hr8') rfl rfl ?_
      try (dsimp only [st, setL, AV.cells, List.set_cons_zero, List.set_cons_succ, List.drop_zero, List.drop_succ_cons, List.take_zero, List.take_succ_cons, Nat.zero_add, Nat.add_zero, Nat.reduceAdd, List.cons_append, List.nil_append, List.eraseIdx_cons_zero, List.eraseIdx_cons_succ])
      refine W ?_
      try ((first | (refine LS_gtnH rfl (by simp) ?_; intro hg; try (dsimp only [st, setL, AV.cells, List.set_cons_zero, List.set_cons_succ, List.drop_zero, List.drop_succ_cons, List.take_zero, List.take_succ_cons, Nat.zero_add, Nat.add_zero, Nat.reduceAdd, List.cons_append, List.nil_append, List.eraseIdx_cons_zero, List.eraseIdx_cons_succ])) | (refine LS_gfnH rfl (by simp) ?_; intro hg; try (dsimp only [st, setL, AV.cells, List.set_cons_zero, List.set_cons_succ, List.drop_zero, List.drop_succ_cons, List.take_zero, List.take_succ_cons, Nat.zero_add, Nat.add_zero, Nat.reduceAdd, List.cons_append, List.nil_append, List.eraseIdx_cons_zero, List.eraseIdx_cons_succ])) | (refine LI_cond_fH rfl (by simp) ?_; intro hg)); refine W ?_)
      refine LS_cm (.refl _) (fun h' HL wf => markIntSSL_ac (prR p ll) g0 ug 1 h1 h' _ HL hug (by omega) (by omega) (by omega)) rfl rfl ?_
      try (dsimp only [st, setL, AV.cells, List.set_cons_zero, List.set_cons_succ, List.drop_zero, List.drop_succ_cons, List.take_zero, List.take_succ_cons, Nat.zero_add, Nat.add_zero, Nat.reduceAdd, List.cons_append, List.nil_append, List.eraseIdx_cons_zero, List.eraseIdx_cons_succ])
      refine W ?_
      rintro _ _ ⟨rfl, rfl⟩
      try (dsimp only [st, setL, AV.cells, List.set_cons_zero, List.set_cons_succ, List.drop_zero, List.drop_succ_cons, List.take_zero, List.take_succ_cons, Nat.zero_add, Nat.add_zero, Nat.reduceAdd, List.cons_append, List.nil_append, List.eraseIdx_cons_zero, List.eraseIdx_cons_succ])
      refine W ?_
      have hugm : ug.length = (markSS 1 (prR p ll)).length := by rw [markSS_len]; exact hug
      refine LS_c0' (fun h' HL wf => heldIntSS_ac (prR p ll) g0 ug 1 h' (ssI_rd [] _ HL hugm) (by omega) (by omega) (by omega)) rfl rfl ?_
      try (dsimp only [st, setL, AV.cells, List.set_cons_zero, List.set_cons_succ, List.drop_zero, List.drop_succ_cons, List.take_zero, List.take_succ_cons, Nat.zero_add, Nat.add_zero, Nat.reduceAdd, List.cons_append, List.nil_append, List.eraseIdx_cons_zero, List.eraseIdx_cons_succ])
      refine W ?_
      try ((first | (refine LS_gtnH rfl (by simp; omega) ?_; intro hg; try (dsimp only [st, setL, AV.cells, List.set_cons_zero, List.set_cons_succ, List.drop_zero, List.drop_succ_cons, List.take_zero, List.take_succ_cons, Nat.zero_add, Nat.add_zero, Nat.reduceAdd, List.cons_append, List.nil_append, List.eraseIdx_cons_zero, List.eraseIdx_cons_succ])) | (refine LS_gfnH rfl (by simp; omega) ?_; intro hg; try (dsimp only [st, setL, AV.cells, List.set_cons_zero, List.set_cons_succ, List.drop_zero, List.drop_succ_cons, List.take_zero, List.take_succ_cons, Nat.zero_add, Nat.add_zero, Nat.reduceAdd, List.cons_append, List.nil_append, List.eraseIdx_cons_zero, List.eraseIdx_cons_succ])) | (refine LI_cond_fH rfl (by simp; omega) ?_; intro hg)); refine W ?_)
      try ((first | (refine LS_gtnH rfl (by simp) ?_; intro hg; try (dsimp only [st, setL, AV.cells, List.set_cons_zero, List.set_cons_succ, List.drop_zero, List.drop_succ_cons, List.take_zero, List.take_succ_cons, Nat.zero_add, Nat.add_zero, Nat.reduceAdd, List.cons_append, List.nil_append, List.eraseIdx_cons_zero, List.eraseIdx_cons_succ])) | (refine LS_gfnH rfl (by simp) ?_; intro hg; try (dsimp only [st, setL, AV.cells, List.set_cons_zero, List.set_cons_succ, List.drop_zero, List.drop_succ_cons, List.take_zero, List.take_succ_cons, Nat.zero_add, Nat.add_zero, Nat.reduceAdd, List.cons_append, List.nil_append, List.eraseIdx_cons_zero, List.eraseIdx_cons_succ])) | (refine LI_cond_fH rfl (by simp) ?_; intro hg)); refine W ?_)
      refine LS_c1 (fun h' HL wf => toPlanX_ac p _ h' (hR1.le HL.le) hw) rfl rfl ?_
      try (dsimp only [st, setL, AV.cells, List.set_cons_zero, List.set_cons_succ, List.drop_zero, List.drop_succ_cons, List.take_zero, List.take_succ_cons, Nat.zero_add, Nat.add_zero, Nat.reduceAdd, List.cons_append, List.nil_append, List.eraseIdx_cons_zero, List.eraseIdx_cons_succ])
      refine W ?_
      rintro _ _ ⟨vs4, vo4, ⟨rfl, l7, l8, s7, s8⟩, rfl⟩
      try (dsimp only [st, setL, AV.cells, List.set_cons_zero, List.set_cons_succ, List.drop_zero, List.drop_succ_cons, List.take_zero, List.take_succ_cons, Nat.zero_add, Nat.add_zero, Nat.reduceAdd, List.cons_append, List.nil_append, List.eraseIdx_cons_zero, List.eraseIdx_cons_succ])
      refine W ?_
      refine LS_c1 (fun h' HL wf => toIntSSI_ac ll w vs h' (hl1.le HL.le) hll hll1) rfl rfl ?_
      try (dsimp only [st, setL, AV.cells, List.set_cons_zero, List.set_cons_succ, List.drop_zero, List.drop_succ_cons, List.take_zero, List.take_succ_cons, Nat.zero_add, Nat.add_zero, Nat.reduceAdd, List.cons_append, List.nil_append, List.eraseIdx_cons_zero, List.eraseIdx_cons_succ])
      refine W ?_
      rintro x4 _ ⟨u4, hu4, lx4, sx4, rfl⟩
      try (dsimp only [st, setL, AV.cells, List.set_cons_zero, List.set_cons_succ, List.drop_zero, List.drop_succ_cons, List.take_zero, List.take_succ_cons, Nat.zero_add, Nat.add_zero, Nat.reduceAdd, List.cons_append, List.nil_append, List.eraseIdx_cons_zero, List.eraseIdx_cons_succ])
      refine W ?_
      refine LS_c1 (fun h' HL wf => implRunP_ac p _ ll x4 u4 h' (plr_mem HL (by simp) (by simp)) hw (ssI_rd [] _ HL hu4) hll hll1) rfl rfl ?_
      try (dsimp only [st, setL, AV.cells, List.set_cons_zero, List.set_cons_succ, List.drop_zero, List.drop_succ_cons, List.take_zero, List.take_succ_cons, Nat.zero_add, Nat.add_zero, Nat.reduceAdd, List.cons_append, List.nil_append, List.eraseIdx_cons_zero, List.eraseIdx_cons_succ])
      refine W ?_
      rintro _ _ ⟨g1, u5, rfl, hu5, lg1, sg1, rfl⟩
      try (dsimp only [st, setL, AV.cells, List.set_cons_zero, List.set_cons_succ, List.drop_zero, List.drop_succ_cons, List.take_zero, List.take_succ_cons, Nat.zero_add, Nat.add_zero, Nat.reduceAdd, List.cons_append, List.nil_append, List.eraseIdx_cons_zero, List.eraseIdx_cons_succ])
      refine W ?_
      refine LS_c0' (fun h' HL wf => eqIntSS_same (prR p ll) g1 w0 u5 u0 h' (ssI_rd [] _ HL hu5) (ssI_mem HL (fun x hx => by simp [hx]) hu0) hr6' hr8') rfl rfl ?_
      try (dsimp only [st, setL, AV.cells, List.set_cons_zero, List.set_cons_succ, List.drop_zero, List.drop_succ_cons, List.take_zero, List.take_succ_cons, Nat.zero_add, Nat.add_zero, Nat.reduceAdd, List.cons_append, List.nil_append, List.eraseIdx_cons_zero, List.eraseIdx_cons_succ])
      refine W ?_
      try ((first | (refine LS_gtnH rfl (by simp) ?_; intro hg; try (dsimp only [st, setL, AV.cells, List.set_cons_zero, List.set_cons_succ, List.drop_zero, List.drop_succ_cons, List.take_zero, List.take_succ_cons, Nat.zero_add, Nat.add_zero, Nat.reduceAdd, List.cons_append, List.nil_append, List.eraseIdx_cons_zero, List.eraseIdx_cons_succ])) | (refine LS_gfnH rfl (by simp) ?_; intro hg; try (dsimp only [st, setL, AV.cells, List.set_cons_zero, List.set_cons_succ, List.drop_zero, List.drop_succ_cons, List.take_zero, List.take_succ_cons, Nat.zero_add, Nat.add_zero, Nat.reduceAdd, List.cons_append, List.nil_append, List.eraseIdx_cons_zero, List.eraseIdx_cons_succ])) | (refine LI_cond_fH rfl (by simp) ?_; intro hg)); refine W ?_)
      refine LS_c0' (fun h' HL wf => heldIntSS_ac (prR p ll) g0 ug 1 h' (ssI_mem HL (fun x hx => by simp [hx]) hugm) (by omega) (by omega) (by omega)) rfl rfl ?_
      try (dsimp only [st, setL, AV.cells, List.set_cons_zero, List.set_cons_succ, List.drop_zero, List.drop_succ_cons, List.take_zero, List.take_succ_cons, Nat.zero_add, Nat.add_zero, Nat.reduceAdd, List.cons_append, List.nil_append, List.eraseIdx_cons_zero, List.eraseIdx_cons_succ])
      refine W ?_
      try ((first | (refine LS_gtnH rfl (by simp; omega) ?_; intro hg; try (dsimp only [st, setL, AV.cells, List.set_cons_zero, List.set_cons_succ, List.drop_zero, List.drop_succ_cons, List.take_zero, List.take_succ_cons, Nat.zero_add, Nat.add_zero, Nat.reduceAdd, List.cons_append, List.nil_append, List.eraseIdx_cons_zero, List.eraseIdx_cons_succ])) | (refine LS_gfnH rfl (by simp; omega) ?_; intro hg; try (dsimp only [st, setL, AV.cells, List.set_cons_zero, List.set_cons_succ, List.drop_zero, List.drop_succ_cons, List.take_zero, List.take_succ_cons, Nat.zero_add, Nat.add_zero, Nat.reduceAdd, List.cons_append, List.nil_append, List.eraseIdx_cons_zero, List.eraseIdx_cons_succ])) | (refine LI_cond_fH rfl (by simp; omega) ?_; intro hg)); refine W ?_)
      try ((first | (refine LS_gtnH rfl (by simp) ?_; intro hg; try (dsimp only [st, setL, AV.cells, List.set_cons_zero, List.set_cons_succ, List.drop_zero, List.drop_succ_cons, List.take_zero, List.take_succ_cons, Nat.zero_add, Nat.add_zero, Nat.reduceAdd, List.cons_append, List.nil_append, List.eraseIdx_cons_zero, List.eraseIdx_cons_succ])) | (refine LS_gfnH rfl (by simp) ?_; intro hg; try (dsimp only [st, setL, AV.cells, List.set_cons_zero, List.set_cons_succ, List.drop_zero, List.drop_succ_cons, List.take_zero, List.take_succ_cons, Nat.zero_add, Nat.add_zero, Nat.reduceAdd, List.cons_append, List.nil_append, List.eraseIdx_cons_zero, List.eraseIdx_cons_succ])) | (refine LI_cond_fH rfl (by simp) ?_; intro hg)); refine W ?_)
      refine RET fun h' HL => ?_
      try dsimp only [oneA]
end Go.Proofs.Ytcopnjopglfllaa
