/- The walk of the law FnShortestStars, part 2: what each function that it reaches computes. -/
import Derived.Test.YtlgjakoeogpjlaaXFnShortestStarsa
namespace Go.Proofs.Ytlgjakoeogpjlaa
open Go.AL
set_option linter.unusedVariables false
set_option linter.unusedSimpArgs false
set_option maxRecDepth 100000
set_option maxHeartbeats 1000000
attribute [local irreducible] AS AI AIL OpR AC CW AWP ALoop LS LI LIL LThen LLoop LBlk LRet Lh AX OpV OpF

theorem treeWays_ac (h : AH) : AC Try.prog 66 [.i .i64 256] h (fun r h' => ∃ M, (∃ (rr : Nat) (lv : AV) (us ls : List AV), r = .tup [.m rr, lv] ∧ us.length = 256 ∧ ls.length = 12 ∧ lenA lv = some ls.length ∧ lv.sc = true ∧ M = tabI rr treeW us :: .sl lv 1 (ls.flatMap enV) :: (rowsI us (colI treeW) ++ rowsI ls (lvls 12))) ∧ Loq h h' M) := by
  refine e66 _ fun wf => ?_
  unfold c66
  refine LI_start wf ?_
  refine W ?_
  refine LS_mkM fun rf => ?_
  try (dsimp only [st, setL, AV.cells, List.set_cons_zero, List.set_cons_succ, List.drop_zero, List.drop_succ_cons, List.take_zero, List.take_succ_cons, Nat.zero_add, Nat.add_zero, Nat.reduceAdd, List.cons_append, List.nil_append, List.eraseIdx_cons_zero, List.eraseIdx_cons_succ])
  refine W ?_
  refine LS_lt [1] rfl rfl (by decide) rfl rfl rfl rfl enI1 rfl rfl fun w1 lw1 sw1 => ?_
  try (dsimp only [st, setL, AV.cells, List.set_cons_zero, List.set_cons_succ, List.drop_zero, List.drop_succ_cons, List.take_zero, List.take_succ_cons, Nat.zero_add, Nat.add_zero, Nat.reduceAdd, List.cons_append, List.nil_append, List.eraseIdx_cons_zero, List.eraseIdx_cons_succ])
  refine W ?_
  refine LS_mins 1 Try.underlying51 Try.underlying3 rfl rfl rfl rfl ?_
  try (dsimp only [st, setL, AV.cells, List.set_cons_zero, List.set_cons_succ, List.drop_zero, List.drop_succ_cons, List.take_zero, List.take_succ_cons, Nat.zero_add, Nat.add_zero, Nat.reduceAdd, List.cons_append, List.nil_append, List.eraseIdx_cons_zero, List.eraseIdx_cons_succ])
  refine W ?_
  refine LS_lt [1] rfl rfl (by decide) rfl rfl rfl rfl enI1 rfl rfl fun w2 lw2 sw2 => ?_
  try (dsimp only [st, setL, AV.cells, List.set_cons_zero, List.set_cons_succ, List.drop_zero, List.drop_succ_cons, List.take_zero, List.take_succ_cons, Nat.zero_add, Nat.add_zero, Nat.reduceAdd, List.cons_append, List.nil_append, List.eraseIdx_cons_zero, List.eraseIdx_cons_succ])
  refine W ?_
  refine LS_ltV rfl rfl sw2 rfl fun w3 lw3 sw3 => ?_
  try (dsimp only [st, setL, AV.cells, List.set_cons_zero, List.set_cons_succ, List.drop_zero, List.drop_succ_cons, List.take_zero, List.take_succ_cons, Nat.zero_add, Nat.add_zero, Nat.reduceAdd, List.cons_append, List.nil_append, List.eraseIdx_cons_zero, List.eraseIdx_cons_succ])
  refine W ?_
  refine LIL_conv (L' := tabI rf (treeW.take (treeN 0)) [w1] :: .sl w3 1 ([w2].flatMap enV) :: (rowsI [w1] (colI (treeW.take (treeN 0))) ++ rowsI [w2] (lvls 1))) (fun h' HL => HL.sel [3, 0, 2, 1] (by decide)) ?_
  refine LIL_ind (fun j a L => ∃ (k : Nat) (lv : AV) (us ls : List AV), (∃ r : Nat → AV, a = [.i .i64 256, r 1, r 2, r 3, .m rf, lv, r 6, r 7, r 8, r 9, r 10, r 11, r 12, r 13, r 14, r 15, r 16, r 17, r 18, r 19, r 20, r 21, r 22, r 23, r 24, r 25, r 26, r 27, r 28, r 29, r 30, r 31, r 32, r 33, r 34, r 35, r 36, r 37, r 38, r 39, r 40, r 41, r 42, r 43, r 44, r 45, r 46, r 47, r 48, r 49, r 50, r 51, r 52, r 53, r 54, r 55, r 56, r 57, r 58, r 59, r 60, r 61, r 62, r 63, r 64, r 65, r 66, r 67, r 68, r 69, r 70, r 71, r 72]) ∧ L = tabI rf (treeW.take (treeN k)) us :: .sl lv 1 (ls.flatMap enV) :: (rowsI us (colI (treeW.take (treeN k))) ++ rowsI ls (lvls (k + 1))) ∧ k + j = 12 ∧ k ≤ 11 ∧ us.length = (treeW.take (treeN k)).length ∧ ls.length = k + 1 ∧ lenA lv = some ls.length ∧ lv.sc = true)
    12 ⟨0, w3, [w1], [w2], exJ rfl, rfl, rfl, by omega, rfl, rfl, lw3, sw3⟩ ?_
  rintro j a _ ⟨k, lv, us0, ls, ⟨r, rfl⟩, rfl, hkj, hk11, hus0, hls, llv, slv⟩ IH
  obtain ⟨ws0, hws0⟩ : ∃ ws0, treeW.take (treeN k) = ws0 := ⟨_, rfl⟩
  obtain ⟨lvk, hlvk⟩ : ∃ lvk, lvl k = lvk := ⟨_, rfl⟩
  have hstep := treeP_w k (by omega)
  have hkey := treeL_key k (by omega)
  have hlen := treeL_len k (by omega)
  have hw0 : ∀ p ∈ ws0, 1 ≤ p.2.length ∧ p.2.length ≤ 13 ∧ ∀ x ∈ p.2, 0 ≤ x ∧ x ≤ 256 := fun p hp => treeW_ok p (by rw [← hws0] at hp; exact List.mem_of_mem_take hp)
  have hn0 : ws0.length ≤ 256 := by rw [← hws0, List.length_take]; have := treeN_bd k (by omega); omega
  rw [hws0] at hus0 hstep hkey ⊢
  rw [show (treeL k).map (·.1) = lvk from hlvk] at hstep hkey
  have hlen2 : lvk.length ≤ 256 := by rw [← hlvk]; unfold lvl; rw [List.length_map]; exact hlen
  have hlk : (lvls (k + 1))[k]? = some lvk := by rw [← hlvk]; exact lvls_get (by omega)
  refine W ?_
  refine LS_lt ([] : List Int) rfl rfl (by decide) rfl rfl rfl rfl enI1 rfl rfl fun nx0 lnx0 snx0 => ?_
  try (dsimp only [st, setL, AV.cells, List.set_cons_zero, List.set_cons_succ, List.drop_zero, List.drop_succ_cons, List.take_zero, List.take_succ_cons, Nat.zero_add, Nat.add_zero, Nat.reduceAdd, List.cons_append, List.nil_append, List.eraseIdx_cons_zero, List.eraseIdx_cons_succ])
  refine W ?_
  obtain ⟨lu, hlu⟩ : ∃ lu, ls[k]? = some lu := at_ (l := ls) (i := k) (by omega)
  refine LS_ix (y := lu) (fun h' HL => HL.rdI 2 rfl enV1 (by decide)) enV1 (by rw [show ((ls.length : Int) - 1).toNat = k by omega]; exact hlu) (by omega) rfl rfl fun q1 o1 hrow1 => ?_
  try (dsimp only [st, setL, AV.cells, List.set_cons_zero, List.set_cons_succ, List.drop_zero, List.drop_succ_cons, List.take_zero, List.take_succ_cons, Nat.zero_add, Nat.add_zero, Nat.reduceAdd, List.cons_append, List.nil_append, List.eraseIdx_cons_zero, List.eraseIdx_cons_succ])
  refine W ?_
  refine LS_have (fun h' HL => (HL.rdM (List.mem_cons_of_mem _ (List.mem_cons_of_mem _ (List.mem_cons_of_mem _ (List.mem_append_right _ (rowsI_get hlu hlk))))) enI1 (by decide)).len) fun hllu => ?_
  refine W ?_
  refine LIL_ind (fun j a L => ∃ (nx : AV) (us : List AV) (s : List Int × List (Int × List Int)) (i : Int), (∃ r : Nat → AV, a = [.i .i64 256, r 1, r 2, r 3, .m rf, lv, nx, r 7, r 8, r 9, r 10, r 11, r 12, r 13, r 14, r 15, r 16, r 17, r 18, r 19, r 20, r 21, r 22, lu, .i .i64 lvk.length, .i .i64 i, r 26, r 27, r 28, r 29, r 30, r 31, r 32, r 33, r 34, r 35, r 36, r 37, r 38, r 39, r 40, r 41, r 42, r 43, r 44, r 45, r 46, r 47, r 48, r 49, r 50, r 51, r 52, r 53, r 54, r 55, r 56, r 57, r 58, r 59, r 60, r 61, r 62, r 63, r 64, r 65, r 66, r 67, r 68, r 69, r 70, r 71, r 72]) ∧ L = .sl nx 1 (s.1.flatMap enI) :: tabI rf s.2 us :: .sl lv 1 (ls.flatMap enV) :: (rowsI us (colI s.2) ++ rowsI ls (lvls (k + 1))) ∧ 0 ≤ i ∧ i + j = lvk.length ∧ s = (lvk.take i.toNat).foldl (wayF 256) ([], ws0) ∧ us.length = s.2.length ∧ lenA nx = some s.1.length ∧ nx.sc = true ∧ TS ws0 s (13 * i.toNat))
    lvk.length ⟨nx0, us0, ([], ws0), 0, exJ rfl, rfl, by omega, by omega, by simp, hus0, lnx0, snx0, ⟨by simp, by simp, ⟨[], by simp⟩, fun p hp => by have := hw0 p hp; exact ⟨this.1, by omega, this.2.2⟩⟩⟩ ?_
  rintro j2 a _ ⟨nx, us, s, i, ⟨r, rfl⟩, rfl, h0, hj2, hs, hus, lnx, snx, hT⟩ IH2
  refine W ?_
  (first | refine LS_gt rfl ?_ ?_ | refine LS_gf rfl ?_ ?_ | refine LI_cond rfl ?_ ?_) <;> intro hc <;> have hc' := hc <;> try simp only [decide_eq_true_eq, decide_eq_false_iff_not, Bool.not_eq_true', Bool.not_eq_false', Bool.not_eq_true, Bool.not_eq_false, beq_iff_eq, bne_iff_ne, beq_eq_false_iff_ne, bne_eq_false_iff_eq, Int.not_lt, Int.not_le, ge_iff_le, gt_iff_lt, not_and, ne_eq, Decidable.not_not] at hc'
  all_goals (try (dsimp only [st, setL, AV.cells, List.set_cons_zero, List.set_cons_succ, List.drop_zero, List.drop_succ_cons, List.take_zero, List.take_succ_cons, Nat.zero_add, Nat.add_zero, Nat.reduceAdd, List.cons_append, List.nil_append, List.eraseIdx_cons_zero, List.eraseIdx_cons_succ]))
  all_goals (refine W ?_)
  · obtain ⟨m, hm, hmm, _⟩ := drop_at (l := lvk) h0 hc'
    obtain ⟨hmk, hmb⟩ := hkey m hmm
    obtain ⟨p, hp⟩ := Option.isSome_iff_exists.1 hmk
    have hpw := hw0 p (List.mem_of_find?_eq_some hp)
    have hfs : ∀ {s' : List Int × List (Int × List Int)} {B : Nat}, TS ws0 s' B → s'.2.find? (fun e => e.1 == m) = some p := fun H => by obtain ⟨t, ht⟩ := H.pre; rw [ht]; exact find_pre hp
    have hwo : wayOf s.2 m = p.2 := by rw [wayOf, hfs hT]; rfl
    have hfind : ∀ {s' : List Int × List (Int × List Int)} {us' : List AV} {B : Nat}, TS ws0 s' B → us'.length = s'.2.length → ∃ (i : Nat) (u : AV), us'[i]? = some u ∧ s'.2[i]? = some p ∧ findI m (zipE s'.2 us') = some u := fun H hl => by
      rcases findE m hl with ⟨_, f2⟩ | ⟨i, u, p', f1, f2, f3, f4⟩
      · rw [hfs H] at f2; cases f2
      · rw [hfs H] at f4; cases f4; exact ⟨i, u, f1, f2, f3⟩
    obtain ⟨iu, u, hu, hpu, hfu⟩ := hfind hT hus
    refine LS_ix (y := m) (fun h' HL => HL.rdM (lvls_mem3 (rowsI_get hlu hlk)) enI1 (by decide)) enI1 hm h0 rfl rfl fun q2 o2 hrow2 => ?_
    try (dsimp only [st, setL, AV.cells, List.set_cons_zero, List.set_cons_succ, List.drop_zero, List.drop_succ_cons, List.take_zero, List.take_succ_cons, Nat.zero_add, Nat.add_zero, Nat.reduceAdd, List.cons_append, List.nil_append, List.eraseIdx_cons_zero, List.eraseIdx_cons_succ])
    refine W ?_
    refine LS_lkp 1 Try.underlying51 Try.underlying3 ze22 rfl rfl rfl ?_
    try (dsimp only [st, setL, AV.cells, List.set_cons_zero, List.set_cons_succ, List.drop_zero, List.drop_succ_cons, List.take_zero, List.take_succ_cons, Nat.zero_add, Nat.add_zero, Nat.reduceAdd, List.cons_append, List.nil_append, List.eraseIdx_cons_zero, List.eraseIdx_cons_succ])
    refine W ?_
    rw [hfu, Option.getD_some]
    refine LS_have (fun h' HL => (HL.rdM (rows_mem3 (rowsI_get hu (colI_get hpu))) enI1 (by decide)).len) fun hlen3 => ?_
    refine W ?_
    refine LIL_ind (fun j a L => ∃ (nx : AV) (us' : List AV) (s' : List Int × List (Int × List Int)) (jj : Int), (∃ r : Nat → AV, a = [.i .i64 256, r 1, r 2, r 3, .m rf, lv, nx, r 7, .i .i64 m, r 9, r 10, r 11, r 12, r 13, r 14, r 15, r 16, r 17, r 18, r 19, r 20, r 21, r 22, lu, .i .i64 lvk.length, .i .i64 i, r 26, r 27, r 28, r 29, r 30, u, .i .i64 p.2.length, .i .i64 jj, r 34, r 35, r 36, r 37, r 38, r 39, r 40, r 41, r 42, r 43, r 44, r 45, r 46, r 47, r 48, r 49, r 50, r 51, r 52, r 53, r 54, r 55, r 56, r 57, r 58, r 59, r 60, r 61, r 62, r 63, r 64, r 65, r 66, r 67, r 68, r 69, r 70, r 71, r 72]) ∧ L = .sl nx 1 (s'.1.flatMap enI) :: tabI rf s'.2 us' :: .sl lv 1 (ls.flatMap enV) :: (rowsI us' (colI s'.2) ++ rowsI ls (lvls (k + 1))) ∧ 0 ≤ jj ∧ jj + j = p.2.length ∧ s' = (p.2.take jj.toNat).foldl (wayA 256 m p.2) s ∧ us'.length = s'.2.length ∧ lenA nx = some s'.1.length ∧ nx.sc = true ∧ TS ws0 s' (13 * i.toNat + jj.toNat) ∧ us'[iu]? = some u ∧ s'.2[iu]? = some p)
      p.2.length ⟨nx, us, s, 0, exJ rfl, rfl, by omega, by omega, by simp, hus, lnx, snx, hT.mono (by omega), hu, hpu⟩ ?_
    rintro j3 a _ ⟨nx, us', s', jj, ⟨r, rfl⟩, rfl, h0j, hj3, hs', hus', lnx, snx, hT', hu', hpu'⟩ IH3
    refine W ?_
    (first | refine LS_gt rfl ?_ ?_ | refine LS_gf rfl ?_ ?_ | refine LI_cond rfl ?_ ?_) <;> intro hc <;> have hc' := hc <;> try simp only [decide_eq_true_eq, decide_eq_false_iff_not, Bool.not_eq_true', Bool.not_eq_false', Bool.not_eq_true, Bool.not_eq_false, beq_iff_eq, bne_iff_ne, beq_eq_false_iff_ne, bne_eq_false_iff_eq, Int.not_lt, Int.not_le, ge_iff_le, gt_iff_lt, not_and, ne_eq, Decidable.not_not] at hc'
    all_goals (try (dsimp only [st, setL, AV.cells, List.set_cons_zero, List.set_cons_succ, List.drop_zero, List.drop_succ_cons, List.take_zero, List.take_succ_cons, Nat.zero_add, Nat.add_zero, Nat.reduceAdd, List.cons_append, List.nil_append, List.eraseIdx_cons_zero, List.eraseIdx_cons_succ]))
    all_goals (refine W ?_)
    · obtain ⟨x, hx, hxm, _⟩ := drop_at (l := p.2) h0j hc'
      have hxb := hpw.2.2 x hxm
      have hnl := hT'.nl
      have hTs := hT'.step (x := x) hmb hxb hpw.2
      have hsn : (p.2.take (jj + 1).toNat).foldl (wayA 256 m p.2) s = wayA 256 m p.2 s' x := by rw [toNat_succ h0j, take_snoc hx, List.foldl_append, ← hs']; rfl
      refine LS_ix (y := x) (fun h' HL => HL.rdM (rows_mem3 (rowsI_get hu' (colI_get hpu'))) enI1 (by decide)) enI1 hx h0j rfl rfl fun q3 o3 hrow3 => ?_
      try (dsimp only [st, setL, AV.cells, List.set_cons_zero, List.set_cons_succ, List.drop_zero, List.drop_succ_cons, List.take_zero, List.take_succ_cons, Nat.zero_add, Nat.add_zero, Nat.reduceAdd, List.cons_append, List.nil_append, List.eraseIdx_cons_zero, List.eraseIdx_cons_succ])
      refine W ?_
      by_cases hle : m + x ≤ 256
      · first | (refine LS_gyH rfl (decide_eq_true hle) ?_; intro hg) | (refine LI_cond_tH rfl (decide_eq_true hle) ?_; intro hg)
        refine W ?_
        refine LS_lkp 1 Try.underlying51 Try.underlying3 ze22 rfl rfl rfl ?_
        try (dsimp only [st, setL, AV.cells, List.set_cons_zero, List.set_cons_succ, List.drop_zero, List.drop_succ_cons, List.take_zero, List.take_succ_cons, Nat.zero_add, Nat.add_zero, Nat.reduceAdd, List.cons_append, List.nil_append, List.eraseIdx_cons_zero, List.eraseIdx_cons_succ])
        refine W ?_
        rcases findE (m + x) hus' with ⟨f1, f2⟩ | ⟨iw, uw, pw, f1, f2, f3, f4⟩
        · have hnew : wayA 256 m p.2 s' x = (s'.1 ++ [m + x], s'.2 ++ [(m + x, p.2 ++ [m + x])]) := by rw [wayA, if_pos ⟨hle, f2⟩]
          rw [hnew] at hTs hsn
          obtain ⟨i2, u2, k1, k2, k3⟩ := hfind hT' hus'
          rw [f1, Option.getD_none]
          refine LS_snl rfl rfl true true (.inl ⟨rfl, rfl⟩) (.inl ⟨rfl, rfl⟩) ?_
          try (dsimp only [st, setL, AV.cells, List.set_cons_zero, List.set_cons_succ, List.drop_zero, List.drop_succ_cons, List.take_zero, List.take_succ_cons, Nat.zero_add, Nat.add_zero, Nat.reduceAdd, List.cons_append, List.nil_append, List.eraseIdx_cons_zero, List.eraseIdx_cons_succ])
          refine W ?_
          refine LS_lkp 1 Try.underlying51 Try.underlying3 ze22 rfl rfl rfl ?_
          try (dsimp only [st, setL, AV.cells, List.set_cons_zero, List.set_cons_succ, List.drop_zero, List.drop_succ_cons, List.take_zero, List.take_succ_cons, Nat.zero_add, Nat.add_zero, Nat.reduceAdd, List.cons_append, List.nil_append, List.eraseIdx_cons_zero, List.eraseIdx_cons_succ])
          refine W ?_
          rw [k3, Option.getD_some]
          refine LS_co (fun h' HL wf => Clone_int_ac p.2 u2 h' (HL.rdM (rows_mem3 (rowsI_get k1 (colI_get k2))) enI1 (by decide)) (by omega)) enI1 rfl rfl fun wq lwq swq => ?_
          try (dsimp only [st, setL, AV.cells, List.set_cons_zero, List.set_cons_succ, List.drop_zero, List.drop_succ_cons, List.take_zero, List.take_succ_cons, Nat.zero_add, Nat.add_zero, Nat.reduceAdd, List.cons_append, List.nil_append, List.eraseIdx_cons_zero, List.eraseIdx_cons_succ])
          refine W ?_
          refine LS_lt [m + x] rfl rfl (by decide) rfl rfl rfl rfl enI1 rfl rfl fun wl lwl swl => ?_
          try (dsimp only [st, setL, AV.cells, List.set_cons_zero, List.set_cons_succ, List.drop_zero, List.drop_succ_cons, List.take_zero, List.take_succ_cons, Nat.zero_add, Nat.add_zero, Nat.reduceAdd, List.cons_append, List.nil_append, List.eraseIdx_cons_zero, List.eraseIdx_cons_succ])
          refine W ?_
          refine LS_ap 1 rfl (fun h' HL => HL.rdI 0 rfl enI1 (by decide)) enI1 (by decide) (by simp) (by simp; omega) (by simp; omega) rfl rfl rfl fun wz lwz swz => ?_
          try (dsimp only [st, setL, AV.cells, List.set_cons_zero, List.set_cons_succ, List.drop_zero, List.drop_succ_cons, List.take_zero, List.take_succ_cons, Nat.zero_add, Nat.add_zero, Nat.reduceAdd, List.cons_append, List.nil_append, List.eraseIdx_cons_zero, List.eraseIdx_cons_succ])
          refine W ?_
          refine LS_mput 3 Try.underlying51 Try.underlying3 rfl rfl rfl rfl ?_
          try (dsimp only [st, setL, AV.cells, List.set_cons_zero, List.set_cons_succ, List.drop_zero, List.drop_succ_cons, List.take_zero, List.take_succ_cons, Nat.zero_add, Nat.add_zero, Nat.reduceAdd, List.cons_append, List.nil_append, List.eraseIdx_cons_zero, List.eraseIdx_cons_succ])
          refine W ?_
          rw [putE (l := p.2 ++ [m + x]) hus' f1]
          refine LS_lt [m + x] rfl rfl (by decide) rfl rfl rfl rfl enI1 rfl rfl fun wm lwm swm => ?_
          try (dsimp only [st, setL, AV.cells, List.set_cons_zero, List.set_cons_succ, List.drop_zero, List.drop_succ_cons, List.take_zero, List.take_succ_cons, Nat.zero_add, Nat.add_zero, Nat.reduceAdd, List.cons_append, List.nil_append, List.eraseIdx_cons_zero, List.eraseIdx_cons_succ])
          refine W ?_
          refine LS_ap 3 rfl (fun h' HL => HL.rdI 0 rfl enI1 (by decide)) enI1 (by decide) (by simp) (by simp; omega) (by simp; omega) rfl rfl rfl fun wn lwn swn => ?_
          try (dsimp only [st, setL, AV.cells, List.set_cons_zero, List.set_cons_succ, List.drop_zero, List.drop_succ_cons, List.take_zero, List.take_succ_cons, Nat.zero_add, Nat.add_zero, Nat.reduceAdd, List.cons_append, List.nil_append, List.eraseIdx_cons_zero, List.eraseIdx_cons_succ])
          refine W ?_
          refine LIL_drop 2 ?_
          refine LIL_push [_, _, _] (by rw [colI_len]; exact hus') ?_
          refine IH3 (j3 - 1) _ _ (by omega) ⟨wn, us' ++ [wz], (s'.1 ++ [m + x], s'.2 ++ [(m + x, p.2 ++ [m + x])]), jj + 1, exJ rfl, by simp only [colI, List.map_append, List.map_cons, List.map_nil]; rfl, by omega, by omega, hsn.symm, by simp [hus'], lwn, swn, hTs.mono (by omega), by rw [List.getElem?_append_left (List.getElem?_eq_some_iff.1 hu').1]; exact hu', by rw [List.getElem?_append_left (List.getElem?_eq_some_iff.1 hpu').1]; exact hpu'⟩
        · have hnew : wayA 256 m p.2 s' x = s' := by rw [wayA, if_neg (fun hc => by rw [f4] at hc; cases hc.2)]
          rw [hnew] at hTs hsn
          rw [f3, Option.getD_some]
          refine LS_have (fun h' HL => (HL.rdM (rows_mem3 (rowsI_get f1 (colI_get f2))) enI1 (by decide)).len) fun hlw => ?_
          have hw1 := (hT'.wb pw (List.mem_of_getElem? f2)).1
          obtain ⟨bq, oq, cq, rfl⟩ := sl_of_len hlw hw1
          refine LS_snl rfl rfl false false (.inr ⟨_, _, _, _, rfl, rfl⟩) (.inl ⟨rfl, rfl⟩) ?_
          try (dsimp only [st, setL, AV.cells, List.set_cons_zero, List.set_cons_succ, List.drop_zero, List.drop_succ_cons, List.take_zero, List.take_succ_cons, Nat.zero_add, Nat.add_zero, Nat.reduceAdd, List.cons_append, List.nil_append, List.eraseIdx_cons_zero, List.eraseIdx_cons_succ])
          refine W ?_
          refine IH3 (j3 - 1) _ _ (by omega) ⟨nx, us', s', jj + 1, exJ rfl, rfl, by omega, by omega, hsn.symm, hus', lnx, snx, hTs.mono (by omega), hu', hpu'⟩
      · have hnew : wayA 256 m p.2 s' x = s' := by rw [wayA, if_neg (fun hc => hle hc.1)]
        rw [hnew] at hTs hsn
        first | (refine LS_gtnH rfl (decide_eq_false hle) ?_; intro hg; try (dsimp only [st, setL, AV.cells, List.set_cons_zero, List.set_cons_succ, List.drop_zero, List.drop_succ_cons, List.take_zero, List.take_succ_cons, Nat.zero_add, Nat.add_zero, Nat.reduceAdd, List.cons_append, List.nil_append, List.eraseIdx_cons_zero, List.eraseIdx_cons_succ])) | (refine LS_gfnH rfl (decide_eq_false hle) ?_; intro hg; try (dsimp only [st, setL, AV.cells, List.set_cons_zero, List.set_cons_succ, List.drop_zero, List.drop_succ_cons, List.take_zero, List.take_succ_cons, Nat.zero_add, Nat.add_zero, Nat.reduceAdd, List.cons_append, List.nil_append, List.eraseIdx_cons_zero, List.eraseIdx_cons_succ])) | (refine LI_cond_fH rfl (decide_eq_false hle) ?_; intro hg)
        refine W ?_
        refine IH3 (j3 - 1) _ _ (by omega) ⟨nx, us', s', jj + 1, exJ rfl, rfl, by omega, by omega, hsn.symm, hus', lnx, snx, hTs.mono (by omega), hu', hpu'⟩
    · have ej : jj.toNat = p.2.length := by omega
      rw [ej, List.take_length] at hs'
      have hsF : (lvk.take (i + 1).toNat).foldl (wayF 256) ([], ws0) = s' := by rw [toNat_succ h0, take_snoc hm, List.foldl_append, ← hs]; show wayF 256 s m = s'; rw [wayF, hwo, hs']
      refine IH2 (j2 - 1) _ _ (by omega) ⟨nx, us', s', i + 1, exJ rfl, rfl, by omega, by omega, hsF.symm, hus', lnx, snx, hT'.mono (by omega)⟩
  · have ei : i.toNat = lvk.length := by omega
    rw [ei, List.take_length, hstep] at hs
    subst hs
    dsimp only at hus lnx hT ⊢
    clear IH2
    by_cases hk : k = 11
    · subst hk
      have eT : treeW.take (treeN (11 + 1)) = treeW := List.take_of_length_le (by rw [treeW_len]; decide)
      have e0 : (treeL (11 + 1)).map (·.1) = [] := tree_end.1
      rw [eT] at hus ⊢
      first | (refine LS_gyH rfl (by rw [e0]; rfl) ?_; intro hg) | (refine LI_cond_tH rfl (by rw [e0]; rfl) ?_; intro hg)
      refine W ?_
      refine RET fun h' HL => ?_
      try dsimp only [oneA]
      exact ⟨_, ⟨rf, lv, us, ls, rfl, by rw [hus, treeW_len], hls, llv, slv, rfl⟩, HL.tail⟩
    · have hne := tree_end.2 (k + 1) (by omega)
      have hlp : 0 < ((treeL (k + 1)).map (·.1)).length := List.length_pos_iff.2 hne
      have hnl := treeL_len (k + 1) (by omega)
      first | (refine LS_gtnH rfl (beq_eq_false_iff_ne.2 (by omega)) ?_; intro hg; try (dsimp only [st, setL, AV.cells, List.set_cons_zero, List.set_cons_succ, List.drop_zero, List.drop_succ_cons, List.take_zero, List.take_succ_cons, Nat.zero_add, Nat.add_zero, Nat.reduceAdd, List.cons_append, List.nil_append, List.eraseIdx_cons_zero, List.eraseIdx_cons_succ])) | (refine LS_gfnH rfl (beq_eq_false_iff_ne.2 (by omega)) ?_; intro hg; try (dsimp only [st, setL, AV.cells, List.set_cons_zero, List.set_cons_succ, List.drop_zero, List.drop_succ_cons, List.take_zero, List.take_succ_cons, Nat.zero_add, Nat.add_zero, Nat.reduceAdd, List.cons_append, List.nil_append, List.eraseIdx_cons_zero, List.eraseIdx_cons_succ])) | (refine LI_cond_fH rfl (beq_eq_false_iff_ne.2 (by omega)) ?_; intro hg)
      refine W ?_
      refine LS_ltV rfl rfl snx rfl fun w4 lw4 sw4 => ?_
      try (dsimp only [st, setL, AV.cells, List.set_cons_zero, List.set_cons_succ, List.drop_zero, List.drop_succ_cons, List.take_zero, List.take_succ_cons, Nat.zero_add, Nat.add_zero, Nat.reduceAdd, List.cons_append, List.nil_append, List.eraseIdx_cons_zero, List.eraseIdx_cons_succ])
      refine W ?_
      refine LS_ap 3 rfl (fun h' HL => HL.rdI 0 rfl enV1 (by decide)) enV1 (by decide) (by simp) (by simp; omega) (by simp; omega) rfl rfl rfl fun w5 lw5 sw5 => ?_
      try (dsimp only [st, setL, AV.cells, List.set_cons_zero, List.set_cons_succ, List.drop_zero, List.drop_succ_cons, List.take_zero, List.take_succ_cons, Nat.zero_add, Nat.add_zero, Nat.reduceAdd, List.cons_append, List.nil_append, List.eraseIdx_cons_zero, List.eraseIdx_cons_succ])
      refine W ?_
      refine LIL_drop 1 (LIL_perm (perm_last _ _ _ _ _) ?_)
      refine IH (j - 1) _ _ (by omega) ⟨k + 1, w5, us, ls ++ [nx], exJ rfl, by rw [lvls_succ (k + 1), rowsI_snoc nx (lvl (k + 1)) (by simp [lvls, hls])]; rfl, by omega, by omega, hus, by simp [hls], lw5, sw5⟩

/-! ### Paths and levels of the tree; the binary star chain -/
def tpR (n : Int) : List Int := if shOk n = true then wayOf treeW n else []

theorem treeW_has : ∀ n : Nat, n < 101 → n = 0 ∨ (treeW.find? (fun e => e.1 == (n : Int))).isSome = true := by decide +kernel

theorem implTP_ac (n : Int) (h : AH) : AC Try.prog 25 [.i .i64 n] h (fun r h' => ∃ M, TupI (tpR n) (shOk n) r M ∧ Loq h h' M) := by
  refine e25 _ fun wf => ?_
  unfold c25
  refine LI_start wf ?_
  refine W ?_
  refine LS_c0' (fun h' HL wf => isShort_ac n h') rfl rfl ?_
  try (dsimp only [st, setL, AV.cells, List.set_cons_zero, List.set_cons_succ, List.drop_zero, List.drop_succ_cons, List.take_zero, List.take_succ_cons, Nat.zero_add, Nat.add_zero, Nat.reduceAdd, List.cons_append, List.nil_append, List.eraseIdx_cons_zero, List.eraseIdx_cons_succ])
  refine W ?_
  (first | refine LS_gt rfl ?_ ?_ | refine LS_gf rfl ?_ ?_ | refine LI_cond rfl ?_ ?_) <;> intro hc <;> have hc' := hc <;> try simp only [decide_eq_true_eq, decide_eq_false_iff_not, Bool.not_eq_true', Bool.not_eq_false', Bool.not_eq_true, Bool.not_eq_false, beq_iff_eq, bne_iff_ne, beq_eq_false_iff_ne, bne_eq_false_iff_eq, Int.not_lt, Int.not_le, ge_iff_le, gt_iff_lt, not_and, ne_eq, Decidable.not_not] at hc'
  all_goals (try (dsimp only [st, setL, AV.cells, List.set_cons_zero, List.set_cons_succ, List.drop_zero, List.drop_succ_cons, List.take_zero, List.take_succ_cons, Nat.zero_add, Nat.add_zero, Nat.reduceAdd, List.cons_append, List.nil_append, List.eraseIdx_cons_zero, List.eraseIdx_cons_succ]))
  all_goals (refine W ?_)
  · have e : shOk n = false := nt hc
    rw [tpR, e, if_neg (by simp)]
    refine RET fun h' HL => ?_
    try dsimp only [oneA]
    exact TupI.none HL
  · have e : shOk n = true := nf hc
    have hn : 1 ≤ n ∧ n ≤ 100 := by simpa [shOk] using e
    rw [tpR, e, if_pos rfl]
    refine LS_c1 (fun h' HL wf => treeWays_ac h') rfl rfl ?_
    try (dsimp only [st, setL, AV.cells, List.set_cons_zero, List.set_cons_succ, List.drop_zero, List.drop_succ_cons, List.take_zero, List.take_succ_cons, Nat.zero_add, Nat.add_zero, Nat.reduceAdd, List.cons_append, List.nil_append, List.eraseIdx_cons_zero, List.eraseIdx_cons_succ])
    refine W ?_
    rintro _ _ ⟨rr, lv, us, ls, rfl, hus, hls, llv, slv, rfl⟩
    try (dsimp only [st, setL, AV.cells, List.set_cons_zero, List.set_cons_succ, List.drop_zero, List.drop_succ_cons, List.take_zero, List.take_succ_cons, Nat.zero_add, Nat.add_zero, Nat.reduceAdd, List.cons_append, List.nil_append, List.eraseIdx_cons_zero, List.eraseIdx_cons_succ])
    refine W ?_
    refine LS_lkp 0 Try.underlying51 Try.underlying3 ze22 rfl rfl rfl ?_
    try (dsimp only [st, setL, AV.cells, List.set_cons_zero, List.set_cons_succ, List.drop_zero, List.drop_succ_cons, List.take_zero, List.take_succ_cons, Nat.zero_add, Nat.add_zero, Nat.reduceAdd, List.cons_append, List.nil_append, List.eraseIdx_cons_zero, List.eraseIdx_cons_succ])
    refine W ?_
    rcases findE (ws := treeW) (us := us) n (by rw [hus, treeW_len]) with ⟨_, f2⟩ | ⟨i, u, p, f1, f2, f3, f4⟩
    · exfalso
      rcases treeW_has n.toNat (by omega) with h0 | h0
      · omega
      · rw [show ((n.toNat : Nat) : Int) = n by omega, f2] at h0; cases h0
    · rw [f3, Option.getD_some, wayOf, f4]
      refine RET fun h' HL => ?_
      try dsimp only [oneA]
      exact TupI.of (HL.ownM (List.mem_cons_of_mem _ (List.mem_cons_of_mem _ (List.mem_append_left _ (List.mem_append_left _ (rowsI_get f1 (colI_get f2)))))) enI1 (by decide))

def bsL (n : Int) : Nat → List Int → List Int
  | 0, c => c
  | i + 1, c => bsL n i (if n / 2 ^ i % 2 = 1 then (c ++ [2 * lastD c]) ++ [2 * lastD c + 1] else c ++ [2 * lastD c])

def bsM (n : Int) : List Int := bsL n (lenT n - 1).toNat [1]

def bsR (n : Int) : List Int := if shOk n = true then bsM n else []

theorem bsM_ok : ∀ n : Nat, n < 101 → n = 0 ∨ (starC (bsM n) = true ∧ (bsM n).length = ((upM n).1 + 1).toNat ∧ lastD (bsM n) = n ∧ 0 ≤ (upM n).1 ∧ (upM n).1 ≤ 12 ∧ (upM n).1 = lenB n ∧ (loM n).1 = (lowN n : Nat)) := by decide +kernel

theorem wayOf_ok : ∀ n : Nat, n < 101 → n = 0 ∨ (starC (wayOf treeW n) = true ∧ lastD (wayOf treeW n) = n) := by decide +kernel

theorem pow2_bdB : ∀ k : Nat, k ≤ 22 → (2 : Int) ^ k ≤ 4194304 ∧ (1 : Int) ≤ 2 ^ k := by decide

theorem implBS_ac (n : Int) (h : AH) : AC Try.prog 51 [.i .i64 n] h (fun r h' => ∃ M, TupI (bsR n) (shOk n) r M ∧ Loq h h' M) := by
  refine e51 _ fun wf => ?_
  unfold c51
  refine LI_start wf ?_
  refine W ?_
  refine LS_c0' (fun h' HL wf => isShort_ac n h') rfl rfl ?_
  try (dsimp only [st, setL, AV.cells, List.set_cons_zero, List.set_cons_succ, List.drop_zero, List.drop_succ_cons, List.take_zero, List.take_succ_cons, Nat.zero_add, Nat.add_zero, Nat.reduceAdd, List.cons_append, List.nil_append, List.eraseIdx_cons_zero, List.eraseIdx_cons_succ])
  refine W ?_
  (first | refine LS_gt rfl ?_ ?_ | refine LS_gf rfl ?_ ?_ | refine LI_cond rfl ?_ ?_) <;> intro hc <;> have hc' := hc <;> try simp only [decide_eq_true_eq, decide_eq_false_iff_not, Bool.not_eq_true', Bool.not_eq_false', Bool.not_eq_true, Bool.not_eq_false, beq_iff_eq, bne_iff_ne, beq_eq_false_iff_ne, bne_eq_false_iff_eq, Int.not_lt, Int.not_le, ge_iff_le, gt_iff_lt, not_and, ne_eq, Decidable.not_not] at hc'
  all_goals (try (dsimp only [st, setL, AV.cells, List.set_cons_zero, List.set_cons_succ, List.drop_zero, List.drop_succ_cons, List.take_zero, List.take_succ_cons, Nat.zero_add, Nat.add_zero, Nat.reduceAdd, List.cons_append, List.nil_append, List.eraseIdx_cons_zero, List.eraseIdx_cons_succ]))
  all_goals (refine W ?_)
  · have e : shOk n = false := nt hc
    rw [bsR, e, if_neg (by simp)]
    refine RET fun h' HL => ?_
    try dsimp only [oneA]
    exact TupI.none HL
  · have e : shOk n = true := nf hc
    have hn : 1 ≤ n ∧ n ≤ 100 := by simpa [shOk] using e
    have hlT := lenT_bd n
    have hlT1 : 1 ≤ lenT n := by unfold lenT; repeat' split <;> omega
    rw [bsR, e, if_pos rfl]
    refine LS_lt [1] rfl rfl (by decide) rfl rfl rfl rfl enI1 rfl rfl fun w0 lw0 sw0 => ?_
    try (dsimp only [st, setL, AV.cells, List.set_cons_zero, List.set_cons_succ, List.drop_zero, List.drop_succ_cons, List.take_zero, List.take_succ_cons, Nat.zero_add, Nat.add_zero, Nat.reduceAdd, List.cons_append, List.nil_append, List.eraseIdx_cons_zero, List.eraseIdx_cons_succ])
    refine W ?_
    rw [show IntKind.u64.wrap n = n by exact IntWalk.u64_in n ⟨by omega, by omega⟩]
    refine LS_c0' (fun h' HL wf => Len_ac n h' (by omega) (by omega)) rfl rfl ?_
    try (dsimp only [st, setL, AV.cells, List.set_cons_zero, List.set_cons_succ, List.drop_zero, List.drop_succ_cons, List.take_zero, List.take_succ_cons, Nat.zero_add, Nat.add_zero, Nat.reduceAdd, List.cons_append, List.nil_append, List.eraseIdx_cons_zero, List.eraseIdx_cons_succ])
    refine W ?_
    refine LIL_ind (fun j a L => ∃ (w : AV) (c : List Int) (i : Int), (∃ r : Nat → AV, a = [.i .i64 n, r 1, r 2, r 3, w, .i .i64 i, r 6, r 7, r 8, r 9, r 10, r 11, r 12, r 13, r 14, r 15, r 16, r 17, r 18, r 19, r 20, r 21, r 22, r 23, r 24, r 25, r 26, r 27, r 28, r 29, r 30, r 31, r 32, r 33, r 34, r 35, r 36, r 37, r 38, r 39, r 40]) ∧ L = [.sl w 1 (c.flatMap enI)] ∧ lenA w = some c.length ∧ w.sc = true ∧ i + 1 = j ∧ 1 ≤ c.length ∧ c.length + 2 * j ≤ 20 ∧ chB 0 (2 ^ c.length) c ∧ bsL n j c = bsM n)
      (lenT n - 1).toNat ⟨w0, [1], lenT n - 2, exJ rfl, rfl, lw0, sw0, by omega, by simp, by simp; omega, by intro y hy; rw [List.mem_singleton.1 hy]; simp, rfl⟩ ?_
    rintro j a _ ⟨w, c, i, ⟨r, rfl⟩, rfl, lw, sw, hij, hcl, hcl2, hcb, hbs⟩ IH
    refine W ?_
    (first | refine LS_gt rfl ?_ ?_ | refine LS_gf rfl ?_ ?_ | refine LI_cond rfl ?_ ?_) <;> intro hc <;> have hc' := hc <;> try simp only [decide_eq_true_eq, decide_eq_false_iff_not, Bool.not_eq_true', Bool.not_eq_false', Bool.not_eq_true, Bool.not_eq_false, beq_iff_eq, bne_iff_ne, beq_eq_false_iff_ne, bne_eq_false_iff_eq, Int.not_lt, Int.not_le, ge_iff_le, gt_iff_lt, not_and, ne_eq, Decidable.not_not] at hc'
    all_goals (try (dsimp only [st, setL, AV.cells, List.set_cons_zero, List.set_cons_succ, List.drop_zero, List.drop_succ_cons, List.take_zero, List.take_succ_cons, Nat.zero_add, Nat.add_zero, Nat.reduceAdd, List.cons_append, List.nil_append, List.eraseIdx_cons_zero, List.eraseIdx_cons_succ]))
    all_goals (refine W ?_)
    · obtain ⟨j1, rfl⟩ : ∃ j1, j = j1 + 1 := ⟨j - 1, by omega⟩
      have ei : i.toNat = j1 := by omega
      have hp := pow2_bdB c.length (by omega)
      have hps : (2 : Int) ^ (c.length + 1) = 2 * 2 ^ c.length := by rw [Int.pow_succ, Int.mul_comm]
      have hps2 : (2 : Int) ^ (c.length + 1 + 1) = 2 * 2 ^ (c.length + 1) := by rw [Int.pow_succ, Int.mul_comm]
      have hli : c[((c.length : Int) - 1).toNat]? = some (lastD c) := by rw [show ((c.length : Int) - 1).toNat = c.length - 1 by omega]; exact lastD_idx (by omega) rfl
      have hlb := hcb _ (List.mem_of_getElem? hli)
      rw [bsL] at hbs
      refine LS_ix (y := lastD c) (fun h' HL => HL.rdI 0 rfl enI1 (by decide)) enI1 hli (by omega) rfl rfl fun q1 o1 hrow1 => ?_
      try (dsimp only [st, setL, AV.cells, List.set_cons_zero, List.set_cons_succ, List.drop_zero, List.drop_succ_cons, List.take_zero, List.take_succ_cons, Nat.zero_add, Nat.add_zero, Nat.reduceAdd, List.cons_append, List.nil_append, List.eraseIdx_cons_zero, List.eraseIdx_cons_succ])
      refine W ?_
      refine LS_lt [2 * lastD c] rfl rfl (by decide) rfl rfl rfl rfl enI1 rfl rfl fun w2 lw2 sw2 => ?_
      try (dsimp only [st, setL, AV.cells, List.set_cons_zero, List.set_cons_succ, List.drop_zero, List.drop_succ_cons, List.take_zero, List.take_succ_cons, Nat.zero_add, Nat.add_zero, Nat.reduceAdd, List.cons_append, List.nil_append, List.eraseIdx_cons_zero, List.eraseIdx_cons_succ])
      refine W ?_
      refine LS_ap 1 rfl (fun h' HL => HL.rdI 0 rfl enI1 (by decide)) enI1 (by decide) (by simp) (by simp; omega) (by simp; omega) rfl rfl rfl fun w3 lw3 sw3 => ?_
      try (dsimp only [st, setL, AV.cells, List.set_cons_zero, List.set_cons_succ, List.drop_zero, List.drop_succ_cons, List.take_zero, List.take_succ_cons, Nat.zero_add, Nat.add_zero, Nat.reduceAdd, List.cons_append, List.nil_append, List.eraseIdx_cons_zero, List.eraseIdx_cons_succ])
      refine W ?_
      refine LS_shk rfl rfl (by omega) (by omega) (by omega) (by decide) ?_
      try (dsimp only [st, setL, AV.cells, List.set_cons_zero, List.set_cons_succ, List.drop_zero, List.drop_succ_cons, List.take_zero, List.take_succ_cons, Nat.zero_add, Nat.add_zero, Nat.reduceAdd, List.cons_append, List.nil_append, List.eraseIdx_cons_zero, List.eraseIdx_cons_succ])
      refine W ?_
      have hdv : 0 ≤ ((n.toNat / 2 ^ i.toNat : Nat) : Int) ∧ ((n.toNat / 2 ^ i.toNat : Nat) : Int) ≤ 4294967296 := ⟨Int.natCast_nonneg _, Int.le_trans (Int.ofNat_le.2 (Nat.le_trans (Nat.div_le_self n.toNat (2 ^ i.toNat)) (show n.toNat ≤ 100 by omega))) (by decide)⟩
      have hdn : ((n.toNat / 2 ^ i.toNat : Nat) : Int) = n / 2 ^ j1 := by rw [ei, Int.natCast_ediv]; congr 1; omega
      have hcb2 : chB 0 (2 ^ (c ++ [2 * lastD c]).length) (c ++ [2 * lastD c]) := by rw [List.length_append, List.length_singleton]; exact hcb.snoc (by omega) (by omega) (by omega)
      (first | refine LS_gt rfl ?_ ?_ | refine LS_gf rfl ?_ ?_ | refine LI_cond rfl ?_ ?_) <;> intro hc <;> have hc' := hc <;> try simp only [decide_eq_true_eq, decide_eq_false_iff_not, Bool.not_eq_true', Bool.not_eq_false', Bool.not_eq_true, Bool.not_eq_false, beq_iff_eq, bne_iff_ne, beq_eq_false_iff_ne, bne_eq_false_iff_eq, Int.not_lt, Int.not_le, ge_iff_le, gt_iff_lt, not_and, ne_eq, Decidable.not_not] at hc'
      all_goals (try (dsimp only [st, setL, AV.cells, List.set_cons_zero, List.set_cons_succ, List.drop_zero, List.drop_succ_cons, List.take_zero, List.take_succ_cons, Nat.zero_add, Nat.add_zero, Nat.reduceAdd, List.cons_append, List.nil_append, List.eraseIdx_cons_zero, List.eraseIdx_cons_succ]))
      all_goals (refine W ?_)
      · rw [and1 hdv.1 hdv.2, hdn] at hc'
        rw [if_pos hc'] at hbs
        refine LS_lt [2 * lastD c + 1] rfl rfl (by decide) rfl rfl rfl rfl enI1 rfl rfl fun w4 lw4 sw4 => ?_
        try (dsimp only [st, setL, AV.cells, List.set_cons_zero, List.set_cons_succ, List.drop_zero, List.drop_succ_cons, List.take_zero, List.take_succ_cons, Nat.zero_add, Nat.add_zero, Nat.reduceAdd, List.cons_append, List.nil_append, List.eraseIdx_cons_zero, List.eraseIdx_cons_succ])
        refine W ?_
        refine LS_ap 2 rfl (fun h' HL => HL.rdI 0 rfl enI1 (by decide)) enI1 (by decide) (by simp) (by simp; omega) (by simp; omega) rfl rfl rfl fun w5 lw5 sw5 => ?_
        try (dsimp only [st, setL, AV.cells, List.set_cons_zero, List.set_cons_succ, List.drop_zero, List.drop_succ_cons, List.take_zero, List.take_succ_cons, Nat.zero_add, Nat.add_zero, Nat.reduceAdd, List.cons_append, List.nil_append, List.eraseIdx_cons_zero, List.eraseIdx_cons_succ])
        refine W ?_
        refine LIL_drop 2 ?_
        refine IH j1 _ _ (by omega) ⟨w5, _, i - 1, exJ rfl, rfl, lw5, sw5, by omega, by simp, by simp; omega, ?_, hbs⟩
        have e3 : ((c ++ [2 * lastD c]) ++ [2 * lastD c + 1]).length = (c ++ [2 * lastD c]).length + 1 := by simp
        have e4 : (c ++ [2 * lastD c]).length = c.length + 1 := by simp
        rw [e3]
        refine hcb2.snoc ?_ (by omega) ?_ <;> rw [e4] <;> omega
      · rw [and1 hdv.1 hdv.2, hdn] at hc'
        rw [if_neg hc'] at hbs
        refine LIL_drop 1 ?_
        refine IH j1 _ _ (by omega) ⟨w3, _, i - 1, exJ rfl, rfl, lw3, sw3, by omega, by simp, by simp; omega, hcb2, hbs⟩
    · have ej : j = 0 := by omega
      subst ej
      rw [bsL] at hbs
      subst hbs
      refine RET fun h' HL => ?_
      try dsimp only [oneA]
      exact TupI.of (HL.ownI 0 rfl enI1 (by decide))

theorem lawFnShortestStars_ac (c1 : List Int) (v1 : AV) (c2 : List Int) (v2 : AV) (h : AH) (hR1 : RdG 1 enU h v1 c1) (w1 : ∀ n ∈ c1, (Lit.int .u8 n).wf = true) (m1 : c1.length ≤ maxLen) (hR2 : RdG 1 enU h v2 c2) (w2 : ∀ n ∈ c2, (Lit.int .u8 n).wf = true) (m2 : c2.length ≤ maxLen) :
    AC Try.prog 12 [v1, v2] h (fun r h' => r = .b true) := by
  have b1 := bytes_in w1
  have q1 : c1.length ≤ 9223372036854775807 := m1
  have q2 : c2.length ≤ 9223372036854775807 := m2
  refine e12 _ _ fun wf => ?_
  unfold c12
  refine LI_start wf ?_
  refine W ?_
  refine LS_c0 (fun h' HL wf => big_ac c1 c2 v1 v2 h' (hR1.le HL.le) (hR2.le HL.le) q1 q2) rfl rfl ?_
  try (dsimp only [st, setL, AV.cells, List.set_cons_zero, List.set_cons_succ, List.drop_zero, List.drop_succ_cons, List.take_zero, List.take_succ_cons, Nat.zero_add, Nat.add_zero, Nat.reduceAdd, List.cons_append, List.nil_append, List.eraseIdx_cons_zero, List.eraseIdx_cons_succ])
  refine W ?_
  (first | refine LS_gt rfl ?_ ?_ | refine LS_gf rfl ?_ ?_ | refine LI_cond rfl ?_ ?_) <;> intro hc <;> have hc' := hc <;> try simp only [decide_eq_true_eq, decide_eq_false_iff_not, Bool.not_eq_true', Bool.not_eq_false', Bool.not_eq_true, Bool.not_eq_false, beq_iff_eq, bne_iff_ne, beq_eq_false_iff_ne, bne_eq_false_iff_eq, Int.not_lt, Int.not_le, ge_iff_le, gt_iff_lt, not_and, ne_eq, Decidable.not_not] at hc'
  all_goals (try (dsimp only [st, setL, AV.cells, List.set_cons_zero, List.set_cons_succ, List.drop_zero, List.drop_succ_cons, List.take_zero, List.take_succ_cons, Nat.zero_add, Nat.add_zero, Nat.reduceAdd, List.cons_append, List.nil_append, List.eraseIdx_cons_zero, List.eraseIdx_cons_succ]))
  all_goals (refine W ?_)
  · refine RET fun h' HL => ?_
    try dsimp only [oneA]
  · refine LS_cq (fun h' HL wf => DrawShortestStar_ac c1 v1 h' (hR1.le HL.le) b1) rfl rfl ?_
    try (dsimp only [st, setL, AV.cells, List.set_cons_zero, List.set_cons_succ, List.drop_zero, List.drop_succ_cons, List.take_zero, List.take_succ_cons, Nat.zero_add, Nat.add_zero, Nat.reduceAdd, List.cons_append, List.nil_append, List.eraseIdx_cons_zero, List.eraseIdx_cons_succ])
    refine W ?_
    rintro _ ⟨n, rfl, hn⟩
    try (dsimp only [st, setL, AV.cells, List.set_cons_zero, List.set_cons_succ, List.drop_zero, List.drop_succ_cons, List.take_zero, List.take_succ_cons, Nat.zero_add, Nat.add_zero, Nat.reduceAdd, List.cons_append, List.nil_append, List.eraseIdx_cons_zero, List.eraseIdx_cons_succ])
    refine W ?_
    have hsl := fun (h' : AH) => starLen_ac n h'
    have hlo := fun (h' : AH) => implLower_ac n h'
    have hup := fun (h' : AH) => implUpper_ac n h'
    have hrl : (ssR n).length ≤ 1048576 := ssR_len
    refine LS_c1 (fun h' HL wf => implShort_ac n h') rfl rfl ?_
    try (dsimp only [st, setL, AV.cells, List.set_cons_zero, List.set_cons_succ, List.drop_zero, List.drop_succ_cons, List.take_zero, List.take_succ_cons, Nat.zero_add, Nat.add_zero, Nat.reduceAdd, List.cons_append, List.nil_append, List.eraseIdx_cons_zero, List.eraseIdx_cons_succ])
    refine W ?_
    rintro _ _ ⟨wc, rfl, lwc, swc, rfl⟩
    try (dsimp only [st, setL, AV.cells, List.set_cons_zero, List.set_cons_succ, List.drop_zero, List.drop_succ_cons, List.take_zero, List.take_succ_cons, Nat.zero_add, Nat.add_zero, Nat.reduceAdd, List.cons_append, List.nil_append, List.eraseIdx_cons_zero, List.eraseIdx_cons_succ])
    refine W ?_
    refine LS_c1 (fun h' HL wf => specShort_ac n h') rfl rfl ?_
    try (dsimp only [st, setL, AV.cells, List.set_cons_zero, List.set_cons_succ, List.drop_zero, List.drop_succ_cons, List.take_zero, List.take_succ_cons, Nat.zero_add, Nat.add_zero, Nat.reduceAdd, List.cons_append, List.nil_append, List.eraseIdx_cons_zero, List.eraseIdx_cons_succ])
    refine W ?_
    rintro _ _ ⟨wr, rfl, lwr, swr, rfl⟩
    try (dsimp only [st, setL, AV.cells, List.set_cons_zero, List.set_cons_succ, List.drop_zero, List.drop_succ_cons, List.take_zero, List.take_succ_cons, Nat.zero_add, Nat.add_zero, Nat.reduceAdd, List.cons_append, List.nil_append, List.eraseIdx_cons_zero, List.eraseIdx_cons_succ])
    refine W ?_
    first | (refine LS_gyH rfl (by simp) ?_; intro hg) | (refine LI_cond_tH rfl (by simp) ?_; intro hg)
    refine W ?_
    refine LS_c0 (fun h' HL wf => rSame_ac (ssR n) wc wr h' (HL.rdI 1 rfl enI1 (by decide)) (HL.rdI 0 rfl enI1 (by decide)) (by omega)) rfl rfl ?_
    try (dsimp only [st, setL, AV.cells, List.set_cons_zero, List.set_cons_succ, List.drop_zero, List.drop_succ_cons, List.take_zero, List.take_succ_cons, Nat.zero_add, Nat.add_zero, Nat.reduceAdd, List.cons_append, List.nil_append, List.eraseIdx_cons_zero, List.eraseIdx_cons_succ])
    refine W ?_
    cases hok : shOk n
    · have hnn : ¬ (1 ≤ n ∧ n ≤ 100) := by simpa [shOk] using hok
      rw [hok, if_neg (by simp)] at hsl
      rw [loM, if_neg hnn] at hlo
      rw [upM, if_neg hnn] at hup
      refine LS_c0 (fun h' HL wf => hsl h') rfl rfl ?_
      try (dsimp only [st, setL, AV.cells, List.set_cons_zero, List.set_cons_succ, List.drop_zero, List.drop_succ_cons, List.take_zero, List.take_succ_cons, Nat.zero_add, Nat.add_zero, Nat.reduceAdd, List.cons_append, List.nil_append, List.eraseIdx_cons_zero, List.eraseIdx_cons_succ])
      refine W ?_
      refine LS_c0' (fun h' HL wf => hlo h') rfl rfl ?_
      try (dsimp only [st, setL, AV.cells, List.set_cons_zero, List.set_cons_succ, List.drop_zero, List.drop_succ_cons, List.take_zero, List.take_succ_cons, Nat.zero_add, Nat.add_zero, Nat.reduceAdd, List.cons_append, List.nil_append, List.eraseIdx_cons_zero, List.eraseIdx_cons_succ])
      refine W ?_
      refine LS_c0' (fun h' HL wf => hup h') rfl rfl ?_
      try (dsimp only [st, setL, AV.cells, List.set_cons_zero, List.set_cons_succ, List.drop_zero, List.drop_succ_cons, List.take_zero, List.take_succ_cons, Nat.zero_add, Nat.add_zero, Nat.reduceAdd, List.cons_append, List.nil_append, List.eraseIdx_cons_zero, List.eraseIdx_cons_succ])
      refine W ?_
      first | (refine LS_gyH rfl (rfl) ?_; intro hg) | (refine LI_cond_tH rfl (rfl) ?_; intro hg)
      refine W ?_
      refine RET fun h' HL => ?_
      try dsimp only [oneA]
    · have hnn : 1 ≤ n ∧ n ≤ 100 := by simpa [shOk] using hok
      rw [hok, if_pos rfl] at hsl
      have e1 : (loM n).2 = true := by rw [loM, if_pos hnn]
      have e2 : (upM n).2 = true := by rw [upM, if_pos hnn]
      obtain ⟨f1, f2, f3, f4, f5, f6, f7⟩ : starC (bsM n) = true ∧ (bsM n).length = ((upM n).1 + 1).toNat ∧ lastD (bsM n) = n ∧ 0 ≤ (upM n).1 ∧ (upM n).1 ≤ 12 ∧ (upM n).1 = lenB n ∧ (loM n).1 = (lowN n.toNat : Nat) := by
        have := bsM_ok n.toNat (by omega)
        rw [show ((n.toNat : Nat) : Int) = n by omega] at this
        rcases this with h | h
        · omega
        · exact h
      obtain ⟨lo, hlo'⟩ : ∃ lo, (loM n).1 = lo := ⟨_, rfl⟩
      obtain ⟨up, hup'⟩ : ∃ up, (upM n).1 = up := ⟨_, rfl⟩
      rw [hlo'] at f7
      rw [hup'] at f2 f4 f5 f6
      rw [hlo', e1] at hlo
      rw [hup', e2] at hup
      have hK := shK_ok hnn.1 hnn.2
      have hKh := shK_has hnn.1 hnn.2
      have hlow := low_sh hnn.1 hnn.2
      have essR : ssR n = firstL n (shK n) := by rw [ssR, hok, if_pos rfl]
      obtain ⟨g1, g2, g3, g4⟩ := first_ok (n := n) (k := shK n) (by omega) hnn.2 hKh
      rw [essR] at lwc ⊢
      refine LS_c0 (fun h' HL wf => hsl h') rfl rfl ?_
      try (dsimp only [st, setL, AV.cells, List.set_cons_zero, List.set_cons_succ, List.drop_zero, List.drop_succ_cons, List.take_zero, List.take_succ_cons, Nat.zero_add, Nat.add_zero, Nat.reduceAdd, List.cons_append, List.nil_append, List.eraseIdx_cons_zero, List.eraseIdx_cons_succ])
      refine W ?_
      refine LS_c0' (fun h' HL wf => hlo h') rfl rfl ?_
      try (dsimp only [st, setL, AV.cells, List.set_cons_zero, List.set_cons_succ, List.drop_zero, List.drop_succ_cons, List.take_zero, List.take_succ_cons, Nat.zero_add, Nat.add_zero, Nat.reduceAdd, List.cons_append, List.nil_append, List.eraseIdx_cons_zero, List.eraseIdx_cons_succ])
      refine W ?_
      refine LS_c0' (fun h' HL wf => hup h') rfl rfl ?_
      try (dsimp only [st, setL, AV.cells, List.set_cons_zero, List.set_cons_succ, List.drop_zero, List.drop_succ_cons, List.take_zero, List.take_succ_cons, Nat.zero_add, Nat.add_zero, Nat.reduceAdd, List.cons_append, List.nil_append, List.eraseIdx_cons_zero, List.eraseIdx_cons_succ])
      refine W ?_
      obtain ⟨pth, hpth⟩ : ∃ pth, wayOf treeW n = pth := ⟨_, rfl⟩
      obtain ⟨p1, p2⟩ : starC pth = true ∧ lastD pth = n := by
        have := wayOf_ok n.toNat (by omega)
        rw [show ((n.toNat : Nat) : Int) = n by omega, hpth] at this
        rcases this with h | h
        · omega
        · exact h
      obtain ⟨kp, p3, p4, p5⟩ := chain_last p1
      rw [p2] at p4 p5
      have hps := shK_low hnn.1 hnn.2 (j := kp) (hasS_iff.2 (fun e => by rw [e] at p5; cases p5))
      have hall : ∀ {c : List Int}, starC c = true → c.length ≤ 41 ∧ ∀ x ∈ c, 1 ≤ x ∧ x ≤ 1000000 := fun h => by
        simp only [starC, Bool.and_eq_true, List.all_eq_true, decide_eq_true_eq] at h
        exact ⟨by omega, h.2.1⟩
      have hbb := (hall f1).2
      have hpb := (hall p1).2
      have hpl := (hall p1).1
      have hbl : (bsM n)[up.toNat]? = some n := lastD_idx (by omega) f3
      first | (refine LS_gyH rfl (rfl) ?_; intro hg) | (refine LI_cond_tH rfl (rfl) ?_; intro hg)
      refine W ?_
      refine LS_c0 (fun h' HL wf => by have H := implIs_ac (firstL n (shK n)) wc h' (HL.rdI 1 rfl enI1 (by decide)) (by omega) (fun x hx => by have := g4 x hx; omega); rw [g1] at H; exact H) rfl rfl ?_
      try (dsimp only [st, setL, AV.cells, List.set_cons_zero, List.set_cons_succ, List.drop_zero, List.drop_succ_cons, List.take_zero, List.take_succ_cons, Nat.zero_add, Nat.add_zero, Nat.reduceAdd, List.cons_append, List.nil_append, List.eraseIdx_cons_zero, List.eraseIdx_cons_succ])
      refine W ?_
      refine LS_ix (y := n) (fun h' HL => HL.rdI 1 rfl enI1 (by decide)) enI1 (by rw [show (((firstL n (shK n)).length : Int) - 1).toNat = shK n by omega]; exact g3) (by omega) rfl rfl fun q1 o1 hrow1 => ?_
      try (dsimp only [st, setL, AV.cells, List.set_cons_zero, List.set_cons_succ, List.drop_zero, List.drop_succ_cons, List.take_zero, List.take_succ_cons, Nat.zero_add, Nat.add_zero, Nat.reduceAdd, List.cons_append, List.nil_append, List.eraseIdx_cons_zero, List.eraseIdx_cons_succ])
      refine W ?_
      first | (refine LS_gyH rfl (by simp) ?_; intro hg) | (refine LI_cond_tH rfl (by simp) ?_; intro hg)
      refine W ?_
      first | (refine LS_gyH rfl (by simp [g2]) ?_; intro hg) | (refine LI_cond_tH rfl (by simp [g2]) ?_; intro hg)
      refine W ?_
      first | (refine LS_gyH rfl (decide_eq_false (by omega)) ?_; intro hg) | (refine LI_cond_tH rfl (decide_eq_false (by omega)) ?_; intro hg)
      refine W ?_
      first | (refine LS_gtnH rfl (decide_eq_false (by omega)) ?_; intro hg; try (dsimp only [st, setL, AV.cells, List.set_cons_zero, List.set_cons_succ, List.drop_zero, List.drop_succ_cons, List.take_zero, List.take_succ_cons, Nat.zero_add, Nat.add_zero, Nat.reduceAdd, List.cons_append, List.nil_append, List.eraseIdx_cons_zero, List.eraseIdx_cons_succ])) | (refine LS_gfnH rfl (decide_eq_false (by omega)) ?_; intro hg; try (dsimp only [st, setL, AV.cells, List.set_cons_zero, List.set_cons_succ, List.drop_zero, List.drop_succ_cons, List.take_zero, List.take_succ_cons, Nat.zero_add, Nat.add_zero, Nat.reduceAdd, List.cons_append, List.nil_append, List.eraseIdx_cons_zero, List.eraseIdx_cons_succ])) | (refine LI_cond_fH rfl (decide_eq_false (by omega)) ?_; intro hg)
      refine W ?_
      refine LIL_drop 2 ?_
      refine LIL_ind (fun j a L => ∃ (k : Int), (∃ r : Nat → AV, a = [r 0, r 1, r 2, r 3, r 4, .i .i64 n, r 6, r 7, r 8, r 9, .i .i64 (shK n : Nat), r 11, r 12, r 13, .i .i64 up, r 15, .i .i64 k, r 17, r 18, r 19, r 20, r 21, r 22, r 23, r 24, r 25, r 26, r 27, r 28, r 29, r 30, r 31, r 32, r 33, r 34, r 35, r 36, r 37, r 38, r 39, r 40, r 41, r 42, r 43, r 44, r 45, r 46, r 47, r 48, r 49, r 50, r 51, r 52, r 53, r 54, r 55, r 56, r 57, r 58, r 59, r 60, r 61, r 62, r 63, r 64, r 65, r 66, r 67, r 68, r 69, r 70, r 71, r 72, r 73, r 74, r 75, r 76, r 77, r 78, r 79, r 80, r 81, r 82, r 83, r 84, r 85, r 86, r 87, r 88, r 89, r 90, r 91, r 92, r 93, r 94, r 95, r 96, r 97, r 98, r 99, r 100, r 101, r 102, r 103, r 104, r 105, r 106, r 107, r 108, r 109, r 110, r 111, r 112, r 113, r 114, r 115, r 116, r 117, r 118, r 119, r 120, r 121, r 122, r 123, r 124, r 125, r 126, r 127, r 128, r 129, r 130, r 131, r 132, r 133, r 134, r 135, r 136, r 137, r 138, r 139, r 140, r 141, r 142, r 143, r 144, r 145, r 146, r 147, r 148, r 149, r 150, r 151, r 152, r 153, r 154, r 155, r 156, r 157, r 158, r 159, r 160, r 161, r 162, r 163, r 164, r 165, r 166, r 167, r 168, r 169, r 170, r 171, r 172, r 173, r 174, r 175, r 176, r 177, r 178, r 179, r 180]) ∧ L = [] ∧ 0 ≤ k ∧ k + j = 20 ∧ k ≤ 12)
        20 ⟨0, exJ rfl, rfl, by omega, by omega, by omega⟩ ?_
      rintro j a _ ⟨k, ⟨r, rfl⟩, rfl, h0, hj, hk12⟩ IH
      refine W ?_
      by_cases hk1 : k < (shK n : Nat)
      · first | (refine LS_gyH rfl (decide_eq_true hk1) ?_; intro hg) | (refine LI_cond_tH rfl (decide_eq_true hk1) ?_; intro hg)
        refine W ?_
        by_cases hk8 : k ≤ 8
        · first | (refine LS_gyH rfl (decide_eq_true hk8) ?_; intro hg) | (refine LI_cond_tH rfl (decide_eq_true hk8) ?_; intro hg)
          refine W ?_
          have hck : cOkS n k = true := by rw [cOkS, decide_eq_true hnn, decide_eq_true ⟨h0, hk8⟩]; rfl
          refine LS_c0 (fun h' HL wf => by have H := count_ac n k h'; rw [hck, if_pos rfl, hK.2.2.2 _ (by omega), List.length_nil] at H; exact H) rfl rfl ?_
          try (dsimp only [st, setL, AV.cells, List.set_cons_zero, List.set_cons_succ, List.drop_zero, List.drop_succ_cons, List.take_zero, List.take_succ_cons, Nat.zero_add, Nat.add_zero, Nat.reduceAdd, List.cons_append, List.nil_append, List.eraseIdx_cons_zero, List.eraseIdx_cons_succ])
          refine W ?_
          first | (refine LS_gtnH rfl (by rfl) ?_; intro hg; try (dsimp only [st, setL, AV.cells, List.set_cons_zero, List.set_cons_succ, List.drop_zero, List.drop_succ_cons, List.take_zero, List.take_succ_cons, Nat.zero_add, Nat.add_zero, Nat.reduceAdd, List.cons_append, List.nil_append, List.eraseIdx_cons_zero, List.eraseIdx_cons_succ])) | (refine LS_gfnH rfl (by rfl) ?_; intro hg; try (dsimp only [st, setL, AV.cells, List.set_cons_zero, List.set_cons_succ, List.drop_zero, List.drop_succ_cons, List.take_zero, List.take_succ_cons, Nat.zero_add, Nat.add_zero, Nat.reduceAdd, List.cons_append, List.nil_append, List.eraseIdx_cons_zero, List.eraseIdx_cons_succ])) | (refine LI_cond_fH rfl (by rfl) ?_; intro hg)
          refine W ?_
          refine IH (j - 1) _ _ (by omega) ⟨k + 1, exJ rfl, rfl, by omega, by omega, by omega⟩
        · first | (refine LS_gtnH rfl (decide_eq_false hk8) ?_; intro hg; try (dsimp only [st, setL, AV.cells, List.set_cons_zero, List.set_cons_succ, List.drop_zero, List.drop_succ_cons, List.take_zero, List.take_succ_cons, Nat.zero_add, Nat.add_zero, Nat.reduceAdd, List.cons_append, List.nil_append, List.eraseIdx_cons_zero, List.eraseIdx_cons_succ])) | (refine LS_gfnH rfl (decide_eq_false hk8) ?_; intro hg; try (dsimp only [st, setL, AV.cells, List.set_cons_zero, List.set_cons_succ, List.drop_zero, List.drop_succ_cons, List.take_zero, List.take_succ_cons, Nat.zero_add, Nat.add_zero, Nat.reduceAdd, List.cons_append, List.nil_append, List.eraseIdx_cons_zero, List.eraseIdx_cons_succ])) | (refine LI_cond_fH rfl (decide_eq_false hk8) ?_; intro hg)
          refine W ?_
          refine LS_c1 (fun h' HL wf => by have H := implBS_ac n h'; rw [hok, show bsR n = bsM n by rw [bsR, if_pos hok]] at H; exact H) rfl rfl ?_
          try (dsimp only [st, setL, AV.cells, List.set_cons_zero, List.set_cons_succ, List.drop_zero, List.drop_succ_cons, List.take_zero, List.take_succ_cons, Nat.zero_add, Nat.add_zero, Nat.reduceAdd, List.cons_append, List.nil_append, List.eraseIdx_cons_zero, List.eraseIdx_cons_succ])
          refine W ?_
          rintro _ _ ⟨wb, rfl, lwb, swb, rfl⟩
          try (dsimp only [st, setL, AV.cells, List.set_cons_zero, List.set_cons_succ, List.drop_zero, List.drop_succ_cons, List.take_zero, List.take_succ_cons, Nat.zero_add, Nat.add_zero, Nat.reduceAdd, List.cons_append, List.nil_append, List.eraseIdx_cons_zero, List.eraseIdx_cons_succ])
          refine W ?_
          refine LS_c1 (fun h' HL wf => by have H := implTP_ac n h'; rw [hok, show tpR n = wayOf treeW n by rw [tpR, if_pos hok], hpth] at H; exact H) rfl rfl ?_
          try (dsimp only [st, setL, AV.cells, List.set_cons_zero, List.set_cons_succ, List.drop_zero, List.drop_succ_cons, List.take_zero, List.take_succ_cons, Nat.zero_add, Nat.add_zero, Nat.reduceAdd, List.cons_append, List.nil_append, List.eraseIdx_cons_zero, List.eraseIdx_cons_succ])
          refine W ?_
          rintro _ _ ⟨wp, rfl, lwp, swp, rfl⟩
          try (dsimp only [st, setL, AV.cells, List.set_cons_zero, List.set_cons_succ, List.drop_zero, List.drop_succ_cons, List.take_zero, List.take_succ_cons, Nat.zero_add, Nat.add_zero, Nat.reduceAdd, List.cons_append, List.nil_append, List.eraseIdx_cons_zero, List.eraseIdx_cons_succ])
          refine W ?_
          refine LS_c0 (fun h' HL wf => by have H := implIs_ac (bsM n) wb h' (HL.rdI 1 rfl enI1 (by decide)) (by omega) (fun x hx => by have := hbb x hx; omega); rw [f1] at H; exact H) rfl rfl ?_
          try (dsimp only [st, setL, AV.cells, List.set_cons_zero, List.set_cons_succ, List.drop_zero, List.drop_succ_cons, List.take_zero, List.take_succ_cons, Nat.zero_add, Nat.add_zero, Nat.reduceAdd, List.cons_append, List.nil_append, List.eraseIdx_cons_zero, List.eraseIdx_cons_succ])
          refine W ?_
          first | (refine LS_gyH rfl (beq_iff_eq.2 (by omega)) ?_; intro hg) | (refine LI_cond_tH rfl (beq_iff_eq.2 (by omega)) ?_; intro hg)
          refine W ?_
          refine LS_ix (y := n) (fun h' HL => HL.rdI 1 rfl enI1 (by decide)) enI1 hbl (by omega) rfl rfl fun q8 o8 hrow8 => ?_
          try (dsimp only [st, setL, AV.cells, List.set_cons_zero, List.set_cons_succ, List.drop_zero, List.drop_succ_cons, List.take_zero, List.take_succ_cons, Nat.zero_add, Nat.add_zero, Nat.reduceAdd, List.cons_append, List.nil_append, List.eraseIdx_cons_zero, List.eraseIdx_cons_succ])
          refine W ?_
          first | (refine LS_gyH rfl (beq_iff_eq.2 rfl) ?_; intro hg) | (refine LI_cond_tH rfl (beq_iff_eq.2 rfl) ?_; intro hg)
          refine W ?_
          refine LS_c0 (fun h' HL wf => by have H := implIs_ac pth wp h' (HL.rdI 0 rfl enI1 (by decide)) (by omega) (fun x hx => by have := hpb x hx; omega); rw [p1] at H; exact H) rfl rfl ?_
          try (dsimp only [st, setL, AV.cells, List.set_cons_zero, List.set_cons_succ, List.drop_zero, List.drop_succ_cons, List.take_zero, List.take_succ_cons, Nat.zero_add, Nat.add_zero, Nat.reduceAdd, List.cons_append, List.nil_append, List.eraseIdx_cons_zero, List.eraseIdx_cons_succ])
          refine W ?_
          refine LS_ix (y := n) (fun h' HL => HL.rdI 0 rfl enI1 (by decide)) enI1 (by rw [show ((pth.length : Int) - 1).toNat = kp by omega]; exact p4) (by omega) rfl rfl fun q9 o9 hrow9 => ?_
          try (dsimp only [st, setL, AV.cells, List.set_cons_zero, List.set_cons_succ, List.drop_zero, List.drop_succ_cons, List.take_zero, List.take_succ_cons, Nat.zero_add, Nat.add_zero, Nat.reduceAdd, List.cons_append, List.nil_append, List.eraseIdx_cons_zero, List.eraseIdx_cons_succ])
          refine W ?_
          refine RET fun h' HL => ?_
          try dsimp only [oneA]
          simp; omega
      · first | (refine LS_gtnH rfl (decide_eq_false hk1) ?_; intro hg; try (dsimp only [st, setL, AV.cells, List.set_cons_zero, List.set_cons_succ, List.drop_zero, List.drop_succ_cons, List.take_zero, List.take_succ_cons, Nat.zero_add, Nat.add_zero, Nat.reduceAdd, List.cons_append, List.nil_append, List.eraseIdx_cons_zero, List.eraseIdx_cons_succ])) | (refine LS_gfnH rfl (decide_eq_false hk1) ?_; intro hg; try (dsimp only [st, setL, AV.cells, List.set_cons_zero, List.set_cons_succ, List.drop_zero, List.drop_succ_cons, List.take_zero, List.take_succ_cons, Nat.zero_add, Nat.add_zero, Nat.reduceAdd, List.cons_append, List.nil_append, List.eraseIdx_cons_zero, List.eraseIdx_cons_succ])) | (refine LI_cond_fH rfl (decide_eq_false hk1) ?_; intro hg)
        refine W ?_
        refine LS_c1 (fun h' HL wf => by have H := implBS_ac n h'; rw [hok, show bsR n = bsM n by rw [bsR, if_pos hok]] at H; exact H) rfl rfl ?_
        try (dsimp only [st, setL, AV.cells, List.set_cons_zero, List.set_cons_succ, List.drop_zero, List.drop_succ_cons, List.take_zero, List.take_succ_cons, Nat.zero_add, Nat.add_zero, Nat.reduceAdd, List.cons_append, List.nil_append, List.eraseIdx_cons_zero, List.eraseIdx_cons_succ])
        refine W ?_
        rintro _ _ ⟨wb, rfl, lwb, swb, rfl⟩
        try (dsimp only [st, setL, AV.cells, List.set_cons_zero, List.set_cons_succ, List.drop_zero, List.drop_succ_cons, List.take_zero, List.take_succ_cons, Nat.zero_add, Nat.add_zero, Nat.reduceAdd, List.cons_append, List.nil_append, List.eraseIdx_cons_zero, List.eraseIdx_cons_succ])
        refine W ?_
        refine LS_c1 (fun h' HL wf => by have H := implTP_ac n h'; rw [hok, show tpR n = wayOf treeW n by rw [tpR, if_pos hok], hpth] at H; exact H) rfl rfl ?_
        try (dsimp only [st, setL, AV.cells, List.set_cons_zero, List.set_cons_succ, List.drop_zero, List.drop_succ_cons, List.take_zero, List.take_succ_cons, Nat.zero_add, Nat.add_zero, Nat.reduceAdd, List.cons_append, List.nil_append, List.eraseIdx_cons_zero, List.eraseIdx_cons_succ])
        refine W ?_
        rintro _ _ ⟨wp, rfl, lwp, swp, rfl⟩
        try (dsimp only [st, setL, AV.cells, List.set_cons_zero, List.set_cons_succ, List.drop_zero, List.drop_succ_cons, List.take_zero, List.take_succ_cons, Nat.zero_add, Nat.add_zero, Nat.reduceAdd, List.cons_append, List.nil_append, List.eraseIdx_cons_zero, List.eraseIdx_cons_succ])
        refine W ?_
        refine LS_c0 (fun h' HL wf => by have H := implIs_ac (bsM n) wb h' (HL.rdI 1 rfl enI1 (by decide)) (by omega) (fun x hx => by have := hbb x hx; omega); rw [f1] at H; exact H) rfl rfl ?_
        try (dsimp only [st, setL, AV.cells, List.set_cons_zero, List.set_cons_succ, List.drop_zero, List.drop_succ_cons, List.take_zero, List.take_succ_cons, Nat.zero_add, Nat.add_zero, Nat.reduceAdd, List.cons_append, List.nil_append, List.eraseIdx_cons_zero, List.eraseIdx_cons_succ])
        refine W ?_
        first | (refine LS_gyH rfl (beq_iff_eq.2 (by omega)) ?_; intro hg) | (refine LI_cond_tH rfl (beq_iff_eq.2 (by omega)) ?_; intro hg)
        refine W ?_
        refine LS_ix (y := n) (fun h' HL => HL.rdI 1 rfl enI1 (by decide)) enI1 hbl (by omega) rfl rfl fun q8 o8 hrow8 => ?_
        try (dsimp only [st, setL, AV.cells, List.set_cons_zero, List.set_cons_succ, List.drop_zero, List.drop_succ_cons, List.take_zero, List.take_succ_cons, Nat.zero_add, Nat.add_zero, Nat.reduceAdd, List.cons_append, List.nil_append, List.eraseIdx_cons_zero, List.eraseIdx_cons_succ])
        refine W ?_
        first | (refine LS_gyH rfl (beq_iff_eq.2 rfl) ?_; intro hg) | (refine LI_cond_tH rfl (beq_iff_eq.2 rfl) ?_; intro hg)
        refine W ?_
        refine LS_c0 (fun h' HL wf => by have H := implIs_ac pth wp h' (HL.rdI 0 rfl enI1 (by decide)) (by omega) (fun x hx => by have := hpb x hx; omega); rw [p1] at H; exact H) rfl rfl ?_
        try (dsimp only [st, setL, AV.cells, List.set_cons_zero, List.set_cons_succ, List.drop_zero, List.drop_succ_cons, List.take_zero, List.take_succ_cons, Nat.zero_add, Nat.add_zero, Nat.reduceAdd, List.cons_append, List.nil_append, List.eraseIdx_cons_zero, List.eraseIdx_cons_succ])
        refine W ?_
        refine LS_ix (y := n) (fun h' HL => HL.rdI 0 rfl enI1 (by decide)) enI1 (by rw [show ((pth.length : Int) - 1).toNat = kp by omega]; exact p4) (by omega) rfl rfl fun q9 o9 hrow9 => ?_
        try (dsimp only [st, setL, AV.cells, List.set_cons_zero, List.set_cons_succ, List.drop_zero, List.drop_succ_cons, List.take_zero, List.take_succ_cons, Nat.zero_add, Nat.add_zero, Nat.reduceAdd, List.cons_append, List.nil_append, List.eraseIdx_cons_zero, List.eraseIdx_cons_succ])
        refine W ?_
        refine RET fun h' HL => ?_
        try dsimp only [oneA]
        simp; omega
end Go.Proofs.Ytlgjakoeogpjlaa
