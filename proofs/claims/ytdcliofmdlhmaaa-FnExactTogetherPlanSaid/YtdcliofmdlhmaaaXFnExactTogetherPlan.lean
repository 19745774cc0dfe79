/- The walk of the law FnExactTogetherPlan, part 2: what each function that it reaches computes. -/
import Derived.Test.YtdcliofmdlhmaaaXFnExactTogetherPlana
namespace Go.Proofs.Ytdcliofmdlhmaaa
open Go.AL
set_option linter.unusedVariables false
set_option linter.unusedSimpArgs false
set_option maxRecDepth 100000
set_option maxHeartbeats 1000000
attribute [local irreducible] AS AI AIL OpR AC CW AWP ALoop LS LI LIL LThen LLoop LBlk LRet Lh AX OpV OpF

/-! Plans that are held. -/
theorem heldStepSL_ac (n : Nat) (v : AV) (k : Int) (h : AH) (hR : RdG 2 enStep h v (markP k n)) (hk0 : 0 ≤ k) (hk1 : k + 2 * n ≤ 4611686018427387904) :
    AC Try.prog 72 [v, .i .i64 k] h (fun r h' => r = .i .i64 (k + 2 * n) ∧ h.le h') := by
  have hlen := hR.len
  rw [markP_len] at hlen
  refine e72 _ _ fun wf => ?_
  unfold c72
  refine LI_start wf ?_
  refine W ?_
  refine LIL_ind (fun m a L => ∃ (i kk : Int), (∃ r : Nat → AV, a = [v, .i .i64 kk, r 2, r 3, r 4, .i .i64 i, r 6, r 7, r 8, r 9, r 10, r 11, r 12, r 13, r 14, r 15, r 16, r 17, r 18, r 19, r 20, r 21, r 22, r 23, r 24, r 25, r 26, r 27, r 28, r 29, r 30]) ∧ L = [] ∧ 0 ≤ i ∧ i + m = n ∧ kk = k + 2 * i)
    n ⟨0, k, exJ rfl, rfl, by omega, by omega, by omega⟩ ?_
  rintro m a L ⟨i, kk, ⟨r, rfl⟩, rfl, h0', hn, rfl⟩ IH
  refine W ?_
  (first | refine LS_gt rfl ?_ ?_ | refine LS_gf rfl ?_ ?_ | refine LI_cond rfl ?_ ?_) <;> intro hc <;> have hc' := hc <;> try simp only [decide_eq_true_eq, decide_eq_false_iff_not, Bool.not_eq_true', Bool.not_eq_false', Bool.not_eq_true, Bool.not_eq_false, beq_iff_eq, bne_iff_ne, beq_eq_false_iff_ne, bne_eq_false_iff_eq, Int.not_lt, Int.not_le, ge_iff_le, gt_iff_lt, not_and, ne_eq, Decidable.not_not] at hc'
  all_goals (try (dsimp only [st, setL, AV.cells, List.set_cons_zero, List.set_cons_succ, List.drop_zero, List.drop_succ_cons, List.take_zero, List.take_succ_cons, Nat.zero_add, Nat.add_zero, Nat.reduceAdd, List.cons_append, List.nil_append, List.eraseIdx_cons_zero, List.eraseIdx_cons_succ]))
  all_goals (refine W ?_)
  · have hy := markP_get n k i.toNat (by omega)
    rw [show k + 2 * (i.toNat : Int) = k + 2 * i by omega] at hy
    refine LS_ix (fun h' HL => hR.le HL.le) enStep2 hy h0' rfl rfl fun b o hrow => ?_
    try (dsimp only [st, setL, AV.cells, List.set_cons_zero, List.set_cons_succ, List.drop_zero, List.drop_succ_cons, List.take_zero, List.take_succ_cons, Nat.zero_add, Nat.add_zero, Nat.reduceAdd, List.cons_append, List.nil_append, List.eraseIdx_cons_zero, List.eraseIdx_cons_succ])
    refine W ?_
    refine LS_lec (j := 0) (o := o) rfl hrow rfl rfl ?_
    try (dsimp only [st, setL, AV.cells, List.set_cons_zero, List.set_cons_succ, List.drop_zero, List.drop_succ_cons, List.take_zero, List.take_succ_cons, Nat.zero_add, Nat.add_zero, Nat.reduceAdd, List.cons_append, List.nil_append, List.eraseIdx_cons_zero, List.eraseIdx_cons_succ])
    refine W ?_
    first | (refine LS_gtnH rfl (by simp) ?_; intro hg; try (dsimp only [st, setL, AV.cells, List.set_cons_zero, List.set_cons_succ, List.drop_zero, List.drop_succ_cons, List.take_zero, List.take_succ_cons, Nat.zero_add, Nat.add_zero, Nat.reduceAdd, List.cons_append, List.nil_append, List.eraseIdx_cons_zero, List.eraseIdx_cons_succ])) | (refine LS_gfnH rfl (by simp) ?_; intro hg; try (dsimp only [st, setL, AV.cells, List.set_cons_zero, List.set_cons_succ, List.drop_zero, List.drop_succ_cons, List.take_zero, List.take_succ_cons, Nat.zero_add, Nat.add_zero, Nat.reduceAdd, List.cons_append, List.nil_append, List.eraseIdx_cons_zero, List.eraseIdx_cons_succ])) | (refine LI_cond_fH rfl (by simp) ?_; intro hg)
    refine W ?_
    refine LS_ix (fun h' HL => hR.le HL.le) enStep2 hy h0' rfl rfl fun b2 o2 hrow2 => ?_
    try (dsimp only [st, setL, AV.cells, List.set_cons_zero, List.set_cons_succ, List.drop_zero, List.drop_succ_cons, List.take_zero, List.take_succ_cons, Nat.zero_add, Nat.add_zero, Nat.reduceAdd, List.cons_append, List.nil_append, List.eraseIdx_cons_zero, List.eraseIdx_cons_succ])
    refine W ?_
    first | (refine LS_gtnH rfl (by simp) ?_; intro hg; try (dsimp only [st, setL, AV.cells, List.set_cons_zero, List.set_cons_succ, List.drop_zero, List.drop_succ_cons, List.take_zero, List.take_succ_cons, Nat.zero_add, Nat.add_zero, Nat.reduceAdd, List.cons_append, List.nil_append, List.eraseIdx_cons_zero, List.eraseIdx_cons_succ])) | (refine LS_gfnH rfl (by simp) ?_; intro hg; try (dsimp only [st, setL, AV.cells, List.set_cons_zero, List.set_cons_succ, List.drop_zero, List.drop_succ_cons, List.take_zero, List.take_succ_cons, Nat.zero_add, Nat.add_zero, Nat.reduceAdd, List.cons_append, List.nil_append, List.eraseIdx_cons_zero, List.eraseIdx_cons_succ])) | (refine LI_cond_fH rfl (by simp) ?_; intro hg)
    refine W ?_
    refine IH (m - 1) _ _ (by omega) ⟨i + 1, _, exJ rfl, rfl, by omega, by omega, by omega⟩
  · refine RET fun h' HL => ?_
    try dsimp only [oneA]
    exact ⟨by congr 1; omega, HL.le⟩

theorem heldPlan_ac (n1 n2 : Nat) (q : Int) (vs vo : AV) (k : Int) (h : AH) (hs : RdG 2 enStep h vs (markP k n1)) (ho : Rd h vo (markL (k + 2 * n1) n2)) (hk0 : 0 ≤ k) (hk1 : k + 2 * n1 + n2 ≤ 4611686018427387904) :
    AC Try.prog 26 [.agg [.i .i64 q, vs, vo], .i .i64 k] h (fun r h' => r = .i .i64 (k + 2 * n1 + n2) ∧ h.le h') := by
  refine e26 _ _ fun wf => ?_
  unfold c26
  refine LI_start wf ?_
  refine W ?_
  refine LS_bxn rfl (sc_cons rfl (sc_cons (rd_sc hs) (sc_cons (rd_sc ho) rfl))) fun b1 => ?_
  try (dsimp only [st, setL, AV.cells, List.set_cons_zero, List.set_cons_succ, List.drop_zero, List.drop_succ_cons, List.take_zero, List.take_succ_cons, Nat.zero_add, Nat.add_zero, Nat.reduceAdd, List.cons_append, List.nil_append, List.eraseIdx_cons_zero, List.eraseIdx_cons_succ])
  refine W ?_
  refine LS_c0 (fun h' HL wf => heldStepSL_ac n1 vs k h' (hs.le HL.le) hk0 (by omega)) rfl rfl ?_
  try (dsimp only [st, setL, AV.cells, List.set_cons_zero, List.set_cons_succ, List.drop_zero, List.drop_succ_cons, List.take_zero, List.take_succ_cons, Nat.zero_add, Nat.add_zero, Nat.reduceAdd, List.cons_append, List.nil_append, List.eraseIdx_cons_zero, List.eraseIdx_cons_succ])
  refine W ?_
  first | (refine LS_gtnH rfl (decide_eq_false (by omega)) ?_; intro hg; try (dsimp only [st, setL, AV.cells, List.set_cons_zero, List.set_cons_succ, List.drop_zero, List.drop_succ_cons, List.take_zero, List.take_succ_cons, Nat.zero_add, Nat.add_zero, Nat.reduceAdd, List.cons_append, List.nil_append, List.eraseIdx_cons_zero, List.eraseIdx_cons_succ])) | (refine LS_gfnH rfl (decide_eq_false (by omega)) ?_; intro hg; try (dsimp only [st, setL, AV.cells, List.set_cons_zero, List.set_cons_succ, List.drop_zero, List.drop_succ_cons, List.take_zero, List.take_succ_cons, Nat.zero_add, Nat.add_zero, Nat.reduceAdd, List.cons_append, List.nil_append, List.eraseIdx_cons_zero, List.eraseIdx_cons_succ])) | (refine LI_cond_fH rfl (decide_eq_false (by omega)) ?_; intro hg)
  refine W ?_
  refine LS_c0 (fun h' HL wf => heldIntSL_ac n2 vo _ h' (ho.le HL.le) (by omega) (by omega)) rfl rfl ?_
  try (dsimp only [st, setL, AV.cells, List.set_cons_zero, List.set_cons_succ, List.drop_zero, List.drop_succ_cons, List.take_zero, List.take_succ_cons, Nat.zero_add, Nat.add_zero, Nat.reduceAdd, List.cons_append, List.nil_append, List.eraseIdx_cons_zero, List.eraseIdx_cons_succ])
  refine W ?_
  first | (refine LS_gtnH rfl (decide_eq_false (by omega)) ?_; intro hg; try (dsimp only [st, setL, AV.cells, List.set_cons_zero, List.set_cons_succ, List.drop_zero, List.drop_succ_cons, List.take_zero, List.take_succ_cons, Nat.zero_add, Nat.add_zero, Nat.reduceAdd, List.cons_append, List.nil_append, List.eraseIdx_cons_zero, List.eraseIdx_cons_succ])) | (refine LS_gfnH rfl (decide_eq_false (by omega)) ?_; intro hg; try (dsimp only [st, setL, AV.cells, List.set_cons_zero, List.set_cons_succ, List.drop_zero, List.drop_succ_cons, List.take_zero, List.take_succ_cons, Nat.zero_add, Nat.add_zero, Nat.reduceAdd, List.cons_append, List.nil_append, List.eraseIdx_cons_zero, List.eraseIdx_cons_succ])) | (refine LI_cond_fH rfl (decide_eq_false (by omega)) ?_; intro hg)
  refine W ?_
  refine RET fun h' HL => ?_
  try dsimp only [oneA]
  exact ⟨rfl, HL.le⟩

def dig2 (n : Nat) : List Int := if h : n = 0 then [] else ((n % 2 : Nat) : Int) :: dig2 (n / 2)
termination_by n
decreasing_by omega

theorem dig2_len : ∀ (k n : Nat), n < 2 ^ k → (dig2 n).length ≤ k
  | 0, n, h => by rw [dig2, dif_pos (by omega)]; simp
  | k + 1, n, h => by
    rw [dig2]
    split
    · simp
    · have := dig2_len k (n / 2) (by rw [Nat.pow_succ] at h; omega)
      simp only [List.length_cons]; omega

theorem psm_r {n : Int} {ss : List (Int × Int)} {x : Int} (hn : 0 ≤ n ∧ n ≤ 4096) (h : okS ss) (hl : ss.length ≤ 4096) (h0 : -1 ≤ x) (h1 : x ≤ 4096) : PSm ⟨n, ss, [x]⟩ :=
  ⟨⟨inI_of_bd hn, fun s hs => ⟨inI_of_bd ⟨(h s hs).1, (h s hs).2.1⟩, inI_of_bd (h s hs).2.2⟩, fun v hv => by rw [List.mem_singleton.1 hv]; unfold inI; omega, by show ss.length ≤ _; omega, by simp⟩, by show ss.length ≤ _; omega, by simp⟩

theorem ok_len {p : PlanM} {b : Bool} (h : b = true → planOk p = true) : (if b = true then p else emptyPlan).steps.length ≤ 1048576 ∧ (if b = true then p else emptyPlan).outs.length ≤ 1048576 := by
  split
  · rename_i e
    obtain ⟨h1, h2, h3, h4, hf, h6⟩ := planOk_out (h e)
    omega
  · exact ⟨by simp [emptyPlan], by simp [emptyPlan]⟩

/-! ### Plans for several powers together -/
theorem dig2_eq {k : Nat} : ∀ {n : Nat}, 2 ^ k ≤ n → n < 2 ^ (k + 1) → (dig2 n).length = k + 1 := by
  induction k with
  | zero =>
    intro n h1 h2
    obtain rfl : n = 1 := by simp at h1 h2; omega
    rw [dig2, dif_neg (by omega), dig2, dif_pos (by omega)]; rfl
  | succ k ih =>
    intro n h1 h2
    rw [Nat.pow_succ] at h1 h2
    have hp : 0 < 2 ^ k := Nat.two_pow_pos k
    rw [dig2, dif_neg (by omega), List.length_cons, ih (by omega) (by omega)]

theorem dig2_shift : ∀ (k n : Nat), 0 < n / 2 ^ k → (dig2 n).length = k + (dig2 (n / 2 ^ k)).length
  | 0, n, h => by simp
  | k + 1, n, h => by
    have e : n / 2 ^ (k + 1) = n / 2 / 2 ^ k := by rw [Nat.pow_succ, Nat.mul_comm, Nat.div_div_eq_div_mul]
    have hn : n ≠ 0 := by intro e0; subst e0; simp at h
    rw [e] at h ⊢
    rw [dig2, dif_neg hn, List.length_cons, dig2_shift k (n / 2) h]
    omega

theorem dig2_0 : dig2 0 = [] := by rw [dig2, dif_pos rfl]

theorem lenT_dig {x : Int} (h0 : 0 ≤ x) (h1 : x < 256) : lenT x = ((dig2 x.toNat).length : Int) := by
  unfold lenT
  split
  · obtain rfl : x = 0 := by omega
    rw [show (0 : Int).toNat = 0 from rfl, dig2_0]; rfl
  · split
    · rw [dig2_eq (k := 0) (by simp; omega) (by simp; omega)]; rfl
    · split
      · rw [dig2_eq (k := 1) (by simp; omega) (by simp; omega)]; rfl
      · split
        · rw [dig2_eq (k := 2) (by simp; omega) (by simp; omega)]; rfl
        · split
          · rw [dig2_eq (k := 3) (by simp; omega) (by simp; omega)]; rfl
          · split
            · rw [dig2_eq (k := 4) (by simp; omega) (by simp; omega)]; rfl
            · split
              · rw [dig2_eq (k := 5) (by simp; omega) (by simp; omega)]; rfl
              · split
                · rw [dig2_eq (k := 6) (by simp; omega) (by simp; omega)]; rfl
                · rw [dig2_eq (k := 7) (by simp; omega) (by simp; omega)]; rfl

theorem fdiv_pow {x : Int} (h0 : 0 ≤ x) (k : Nat) : x.fdiv (2 ^ k) = ((x.toNat / 2 ^ k : Nat) : Int) := by
  obtain ⟨n, rfl⟩ : ∃ n : Nat, x = n := ⟨x.toNat, by omega⟩
  rw [Int.fdiv_eq_ediv_of_nonneg _ (by exact Int.le_of_lt (Int.pow_pos (by decide)))]
  simp

theorem and1 {y : Int} (h0 : 0 ≤ y) (h1 : y ≤ 4294967296) : IntKind.i64.wrap (BitVec.ofInt IntKind.i64.bits y &&& BitVec.ofInt IntKind.i64.bits 1).toNat = y % 2 := by
  obtain ⟨n, rfl⟩ : ∃ n : Nat, y = n := ⟨y.toNat, by omega⟩
  have e : (BitVec.ofInt IntKind.i64.bits (n : Int) &&& BitVec.ofInt IntKind.i64.bits 1).toNat = n % 2 := by
    rw [BitVec.toNat_and, BitVec.toNat_ofInt, BitVec.toNat_ofInt]
    rw [show ((1 : Int) % ((2 ^ IntKind.i64.bits : Nat) : Int)).toNat = 1 by decide]
    rw [show ((n : Int) % ((2 ^ IntKind.i64.bits : Nat) : Int)).toNat = n by
      rw [show ((2 ^ IntKind.i64.bits : Nat) : Int) = 18446744073709551616 by decide]; omega]
    exact Nat.and_one_is_mod n
  rw [e, IntWalk.i64_in _ (by omega)]
  omega

theorem LS_shk {P : Program} {h0 : AH} {L : List It} {Q : Exit → List AV → List It → Prop} {a : List AV} {l : List IOp} {d : Option Nat} {T T' : TypeId} {x y : Operand} {k k' : IntKind} {m n : Int} (hx : ev a x = some (.i k m)) (hy : ev a y = some (.i k' n)) (hn : 0 ≤ n) (hn2 : n ≤ 31) (hm : 0 ≤ m) (hk : 32 ≤ k.bits)
    (H : LS P h0 L l Q (st a d (.i k ((m.toNat / 2 ^ n.toNat : Nat) : Int)))) : LS P h0 L (⟨d, .binOp .shr T x y T', none⟩ :: l) Q a := by
  have := OpV_shr (P := P) (T := T) (T' := T') hx hy hn
  rw [show min n.toNat k.bits = n.toNat by omega, fdiv_pow hm] at this
  exact LS_v this H

theorem LS_str {P : Program} {h0 : AH} {L : List It} {Q : Exit → List AV → List It → Prop} {a : List AV} {l : List IOp} {d : Option Nat} {T : TypeId} {x ix : Operand} {s : ByteArray} {kk : IntKind} {n : Int} {u : UInt8} (hT : P.underlying T = some .string) (hx : ev a x = some (.s s)) (hi : ev a ix = some (.i kk n)) (hn : 0 ≤ n) (hg : s[n.toNat]? = some u)
    (H : LS P h0 L l Q (st a d (.i .u8 u.toNat))) : LS P h0 L (⟨d, .index T x ix, none⟩ :: l) Q a :=
  LS_v (OpV_index hT hx hi hn hg) H

theorem Len64b_ac (x : Int) (h : AH) (h0' : 0 ≤ x) (h1 : x < 1048576) : AC Try.prog 145 [.i .u64 x] h (fun v h' => v = .i .i64 (dig2 x.toNat).length ∧ h.le h') := by
  by_cases hb : x < 256
  · exact (Len64_ac x h h0' hb).mono fun v h' ⟨e1, e2⟩ => ⟨by rw [e1, lenT_dig h0' hb], by rw [e2]; exact .refl _⟩
  by_cases hc : x < 65536
  · have e := dig2_shift 8 x.toNat (by omega)
    have hl := lenT_dig (x := ((x.toNat / 2 ^ 8 : Nat) : Int)) (by omega) (by omega)
    obtain ⟨k, hk⟩ : ∃ k : Fin 256, x.toNat / 2 ^ 8 = k.val := ⟨⟨x.toNat / 2 ^ 8, by omega⟩, rfl⟩
    obtain ⟨t1, t2, t3⟩ := tab8_get k
    rw [hk] at hl
    have hb2 := lenT_bd k.val
    refine e145 _ fun wf => ?_
    unfold c145
    refine LI_start wf ?_
    refine W ?_
    first | (refine LS_gtnH rfl (decide_eq_false (by omega)) ?_; intro hg; try (dsimp only [st, setL, AV.cells, List.set_cons_zero, List.set_cons_succ, List.drop_zero, List.drop_succ_cons, List.take_zero, List.take_succ_cons, Nat.zero_add, Nat.add_zero, Nat.reduceAdd, List.cons_append, List.nil_append, List.eraseIdx_cons_zero, List.eraseIdx_cons_succ])) | (refine LS_gfnH rfl (decide_eq_false (by omega)) ?_; intro hg; try (dsimp only [st, setL, AV.cells, List.set_cons_zero, List.set_cons_succ, List.drop_zero, List.drop_succ_cons, List.take_zero, List.take_succ_cons, Nat.zero_add, Nat.add_zero, Nat.reduceAdd, List.cons_append, List.nil_append, List.eraseIdx_cons_zero, List.eraseIdx_cons_succ])) | (refine LI_cond_fH rfl (decide_eq_false (by omega)) ?_; intro hg)
    refine W ?_
    first | (refine LS_gtnH rfl (decide_eq_false (by omega)) ?_; intro hg; try (dsimp only [st, setL, AV.cells, List.set_cons_zero, List.set_cons_succ, List.drop_zero, List.drop_succ_cons, List.take_zero, List.take_succ_cons, Nat.zero_add, Nat.add_zero, Nat.reduceAdd, List.cons_append, List.nil_append, List.eraseIdx_cons_zero, List.eraseIdx_cons_succ])) | (refine LS_gfnH rfl (decide_eq_false (by omega)) ?_; intro hg; try (dsimp only [st, setL, AV.cells, List.set_cons_zero, List.set_cons_succ, List.drop_zero, List.drop_succ_cons, List.take_zero, List.take_succ_cons, Nat.zero_add, Nat.add_zero, Nat.reduceAdd, List.cons_append, List.nil_append, List.eraseIdx_cons_zero, List.eraseIdx_cons_succ])) | (refine LI_cond_fH rfl (decide_eq_false (by omega)) ?_; intro hg)
    refine W ?_
    first | (refine LS_gyH rfl (decide_eq_true (by omega)) ?_; intro hg) | (refine LI_cond_tH rfl (decide_eq_true (by omega)) ?_; intro hg)
    refine W ?_
    refine LS_shk rfl rfl (by omega) (by omega) h0' (by decide) ?_
    try (dsimp only [st, setL, AV.cells, List.set_cons_zero, List.set_cons_succ, List.drop_zero, List.drop_succ_cons, List.take_zero, List.take_succ_cons, Nat.zero_add, Nat.add_zero, Nat.reduceAdd, List.cons_append, List.nil_append, List.eraseIdx_cons_zero, List.eraseIdx_cons_succ])
    refine W ?_
    rw [show Int.toNat 8 = 8 from rfl, hk, t3]
    refine LS_str (s := tab8) Try.underlying9 rfl rfl (by omega) (by simpa using t1) ?_
    try (dsimp only [st, setL, AV.cells, List.set_cons_zero, List.set_cons_succ, List.drop_zero, List.drop_succ_cons, List.take_zero, List.take_succ_cons, Nat.zero_add, Nat.add_zero, Nat.reduceAdd, List.cons_append, List.nil_append, List.eraseIdx_cons_zero, List.eraseIdx_cons_succ])
    refine W ?_
    rw [t2]
    refine W ?_
    refine RET fun h' HL => ?_
    try dsimp only [oneA]
    exact ⟨by rw [e, hk]; congr 1; simp at hl ⊢; omega, HL.le⟩
  · have e := dig2_shift 16 x.toNat (by omega)
    have hl := lenT_dig (x := ((x.toNat / 2 ^ 16 : Nat) : Int)) (by omega) (by omega)
    obtain ⟨k, hk⟩ : ∃ k : Fin 256, x.toNat / 2 ^ 16 = k.val := ⟨⟨x.toNat / 2 ^ 16, by omega⟩, rfl⟩
    obtain ⟨t1, t2, t3⟩ := tab8_get k
    rw [hk] at hl
    have hb2 := lenT_bd k.val
    have hks := k.isLt
    refine e145 _ fun wf => ?_
    unfold c145
    refine LI_start wf ?_
    refine W ?_
    first | (refine LS_gtnH rfl (decide_eq_false (by omega)) ?_; intro hg; try (dsimp only [st, setL, AV.cells, List.set_cons_zero, List.set_cons_succ, List.drop_zero, List.drop_succ_cons, List.take_zero, List.take_succ_cons, Nat.zero_add, Nat.add_zero, Nat.reduceAdd, List.cons_append, List.nil_append, List.eraseIdx_cons_zero, List.eraseIdx_cons_succ])) | (refine LS_gfnH rfl (decide_eq_false (by omega)) ?_; intro hg; try (dsimp only [st, setL, AV.cells, List.set_cons_zero, List.set_cons_succ, List.drop_zero, List.drop_succ_cons, List.take_zero, List.take_succ_cons, Nat.zero_add, Nat.add_zero, Nat.reduceAdd, List.cons_append, List.nil_append, List.eraseIdx_cons_zero, List.eraseIdx_cons_succ])) | (refine LI_cond_fH rfl (decide_eq_false (by omega)) ?_; intro hg)
    refine W ?_
    first | (refine LS_gyH rfl (decide_eq_true (by omega)) ?_; intro hg) | (refine LI_cond_tH rfl (decide_eq_true (by omega)) ?_; intro hg)
    refine W ?_
    refine LS_shk rfl rfl (by omega) (by omega) h0' (by decide) ?_
    try (dsimp only [st, setL, AV.cells, List.set_cons_zero, List.set_cons_succ, List.drop_zero, List.drop_succ_cons, List.take_zero, List.take_succ_cons, Nat.zero_add, Nat.add_zero, Nat.reduceAdd, List.cons_append, List.nil_append, List.eraseIdx_cons_zero, List.eraseIdx_cons_succ])
    refine W ?_
    rw [show Int.toNat 16 = 16 from rfl, hk]
    first | (refine LS_gtnH rfl (decide_eq_false (by omega)) ?_; intro hg; try (dsimp only [st, setL, AV.cells, List.set_cons_zero, List.set_cons_succ, List.drop_zero, List.drop_succ_cons, List.take_zero, List.take_succ_cons, Nat.zero_add, Nat.add_zero, Nat.reduceAdd, List.cons_append, List.nil_append, List.eraseIdx_cons_zero, List.eraseIdx_cons_succ])) | (refine LS_gfnH rfl (decide_eq_false (by omega)) ?_; intro hg; try (dsimp only [st, setL, AV.cells, List.set_cons_zero, List.set_cons_succ, List.drop_zero, List.drop_succ_cons, List.take_zero, List.take_succ_cons, Nat.zero_add, Nat.add_zero, Nat.reduceAdd, List.cons_append, List.nil_append, List.eraseIdx_cons_zero, List.eraseIdx_cons_succ])) | (refine LI_cond_fH rfl (decide_eq_false (by omega)) ?_; intro hg)
    refine W ?_
    rw [t3]
    refine LS_str (s := tab8) Try.underlying9 rfl rfl (by omega) (by simpa using t1) ?_
    try (dsimp only [st, setL, AV.cells, List.set_cons_zero, List.set_cons_succ, List.drop_zero, List.drop_succ_cons, List.take_zero, List.take_succ_cons, Nat.zero_add, Nat.add_zero, Nat.reduceAdd, List.cons_append, List.nil_append, List.eraseIdx_cons_zero, List.eraseIdx_cons_succ])
    refine W ?_
    rw [t2]
    refine W ?_
    refine RET fun h' HL => ?_
    try dsimp only [oneA]
    exact ⟨by rw [e, hk]; congr 1; simp at hl ⊢; omega, HL.le⟩

theorem LenB_ac (x : Int) (h : AH) (h0' : 0 ≤ x) (h1 : x < 1048576) : AC Try.prog 108 [.i .u64 x] h (fun v h' => v = .i .i64 (dig2 x.toNat).length ∧ h.le h') := by
  refine e108 _ fun wf => ?_
  unfold c108
  refine LI_start wf ?_
  refine W ?_
  refine LS_c0 (fun h' HL wf => Len64b_ac x h' h0' h1) rfl rfl ?_
  try (dsimp only [st, setL, AV.cells, List.set_cons_zero, List.set_cons_succ, List.drop_zero, List.drop_succ_cons, List.take_zero, List.take_succ_cons, Nat.zero_add, Nat.add_zero, Nat.reduceAdd, List.cons_append, List.nil_append, List.eraseIdx_cons_zero, List.eraseIdx_cons_succ])
  refine W ?_
  refine RET fun h' HL => ?_
  try dsimp only [oneA]
  exact ⟨rfl, HL.le⟩

theorem chLength_ac (x : Int) (h : AH) (h0' : 0 ≤ x) (h1 : x < 1048576) : AC Try.prog 103 [.i .i64 x] h (fun v h' => v = .i .i64 (dig2 x.toNat).length ∧ h.le h') := by
  have hl := dig2_len 20 x.toNat (by omega)
  refine e103 _ fun wf => ?_
  unfold c103
  refine LI_start wf ?_
  refine W ?_
  refine LIL_ind (fun n a L => ∃ (b : Int), (∃ r : Nat → AV, a = [.i .i64 x, r 1, r 2, .i .i64 b, r 4, r 5, r 6, r 7, r 8, r 9, r 10]) ∧ L = [] ∧ 0 ≤ b ∧ b + n = 20 ∧ ((dig2 x.toNat).length : Int) = b + (dig2 (x.toNat / 2 ^ b.toNat)).length)
    20 ⟨0, exJ rfl, rfl, by omega, by omega, by simp⟩ ?_
  rintro n a L ⟨b, ⟨r, rfl⟩, rfl, hb0, hn, heq⟩ IH
  refine W ?_
  refine LS_shk rfl rfl hb0 (by omega) h0' (by decide) ?_
  try (dsimp only [st, setL, AV.cells, List.set_cons_zero, List.set_cons_succ, List.drop_zero, List.drop_succ_cons, List.take_zero, List.take_succ_cons, Nat.zero_add, Nat.add_zero, Nat.reduceAdd, List.cons_append, List.nil_append, List.eraseIdx_cons_zero, List.eraseIdx_cons_succ])
  refine W ?_
  (first | refine LS_gt rfl ?_ ?_ | refine LS_gf rfl ?_ ?_ | refine LI_cond rfl ?_ ?_) <;> intro hc <;> have hc' := hc <;> try simp only [decide_eq_true_eq, decide_eq_false_iff_not, Bool.not_eq_true', Bool.not_eq_false', Bool.not_eq_true, Bool.not_eq_false, beq_iff_eq, bne_iff_ne, beq_eq_false_iff_ne, bne_eq_false_iff_eq, Int.not_lt, Int.not_le, ge_iff_le, gt_iff_lt, not_and, ne_eq, Decidable.not_not] at hc'
  all_goals (try (dsimp only [st, setL, AV.cells, List.set_cons_zero, List.set_cons_succ, List.drop_zero, List.drop_succ_cons, List.take_zero, List.take_succ_cons, Nat.zero_add, Nat.add_zero, Nat.reduceAdd, List.cons_append, List.nil_append, List.eraseIdx_cons_zero, List.eraseIdx_cons_succ]))
  all_goals (refine W ?_)
  · have hq1 : 0 < x.toNat / 2 ^ b.toNat := by
      generalize x.toNat / 2 ^ b.toNat = q at *
      omega
    have e2 : x.toNat / 2 ^ (b + 1).toNat = x.toNat / 2 ^ b.toNat / 2 := by rw [toNat_succ hb0, Nat.pow_succ, Nat.div_div_eq_div_mul]
    have e3 : (dig2 (x.toNat / 2 ^ b.toNat)).length = 1 + (dig2 (x.toNat / 2 ^ b.toNat / 2)).length := by
      rw [dig2, dif_neg (by omega), List.length_cons]; omega
    refine IH (n - 1) _ _ ?_ ⟨b + 1, exJ rfl, rfl, by omega, by omega, by rw [e2]; omega⟩
    omega
  · have hq0 : x.toNat / 2 ^ b.toNat = 0 := by
      generalize x.toNat / 2 ^ b.toNat = q at *
      omega
    rw [hq0, dig2_0] at heq
    refine RET fun h' HL => ?_
    try dsimp only [oneA]
    exact ⟨by rw [heq]; simp, HL.le⟩

/-! ### Plans for several powers together, the walk -/
theorem meGreatest_ac (xs : List Int) (w : AV) (h : AH) (hR : Rd h w xs) (hl : xs.length ≤ 1048576) : AC Try.prog 102 [w] h (fun v h' => v = .i .i64 (maxL 0 xs) ∧ h.le h') := by
  have hln := hR.len
  refine e102 _ fun wf => ?_
  unfold c102
  refine LI_start wf ?_
  refine W ?_
  refine LIL_ind (fun n a L => ∃ (m i : Int), (∃ r : Nat → AV, a = [r 0, r 1, r 2, .i .i64 m, r 4, r 5, w, .i .i64 xs.length, .i .i64 i, r 9, r 10, r 11, r 12, r 13, r 14, r 15, r 16]) ∧ L = [] ∧ 0 ≤ i ∧ i + n = xs.length ∧ maxL 0 xs = maxL m (xs.drop i.toNat))
    xs.length ⟨0, 0, exJ rfl, rfl, by omega, by omega, rfl⟩ ?_
  rintro n a L ⟨m, i, ⟨r, rfl⟩, rfl, hi0, hn, heq⟩ IH
  refine W ?_
  (first | refine LS_gt rfl ?_ ?_ | refine LS_gf rfl ?_ ?_ | refine LI_cond rfl ?_ ?_) <;> intro hc <;> have hc' := hc <;> try simp only [decide_eq_true_eq, decide_eq_false_iff_not, Bool.not_eq_true', Bool.not_eq_false', Bool.not_eq_true, Bool.not_eq_false, beq_iff_eq, bne_iff_ne, beq_eq_false_iff_ne, bne_eq_false_iff_eq, Int.not_lt, Int.not_le, ge_iff_le, gt_iff_lt, not_and, ne_eq, Decidable.not_not] at hc'
  all_goals (try (dsimp only [st, setL, AV.cells, List.set_cons_zero, List.set_cons_succ, List.drop_zero, List.drop_succ_cons, List.take_zero, List.take_succ_cons, Nat.zero_add, Nat.add_zero, Nat.reduceAdd, List.cons_append, List.nil_append, List.eraseIdx_cons_zero, List.eraseIdx_cons_succ]))
  all_goals (refine W ?_)
  · obtain ⟨y, hy, hym, hd⟩ := drop_at (l := xs) hi0 hc'
    rw [hd, maxL, show (if y > m then y else m) = (if y < m then m else y) by split <;> split <;> omega] at heq
    refine LS_ix (fun h' HL => hR.le HL.le) enI1 hy hi0 rfl rfl fun q1 o1 hrow1 => ?_
    try (dsimp only [st, setL, AV.cells, List.set_cons_zero, List.set_cons_succ, List.drop_zero, List.drop_succ_cons, List.take_zero, List.take_succ_cons, Nat.zero_add, Nat.add_zero, Nat.reduceAdd, List.cons_append, List.nil_append, List.eraseIdx_cons_zero, List.eraseIdx_cons_succ])
    refine W ?_
    refine LS_c0 (fun h' HL wf => l1Most_ac m y h') rfl rfl ?_
    try (dsimp only [st, setL, AV.cells, List.set_cons_zero, List.set_cons_succ, List.drop_zero, List.drop_succ_cons, List.take_zero, List.take_succ_cons, Nat.zero_add, Nat.add_zero, Nat.reduceAdd, List.cons_append, List.nil_append, List.eraseIdx_cons_zero, List.eraseIdx_cons_succ])
    refine W ?_
    refine IH (n - 1) _ _ (by omega) ⟨_, i + 1, exJ rfl, rfl, by omega, by omega, by rw [toNat_succ hi0]; exact heq⟩
  · rw [List.drop_eq_nil_of_le (by omega), maxL] at heq
    refine RET fun h' HL => ?_
    try dsimp only [oneA]
    exact ⟨by rw [heq], HL.le⟩

theorem Together1_ac (x : Int) (h : AH) : AC Try.prog 106 [.i .i64 x] h (fun v h' => v = .b (!decide (0 ≤ x ∧ x ≤ 1000000)) ∧ h.le h') := by
  refine e106 _ fun wf => ?_
  unfold c106
  refine LI_start wf ?_
  refine W ?_
  refine LS_c0' (fun h' HL wf => in_ac x 0 1000000 h') rfl rfl ?_
  try (dsimp only [st, setL, AV.cells, List.set_cons_zero, List.set_cons_succ, List.drop_zero, List.drop_succ_cons, List.take_zero, List.take_succ_cons, Nat.zero_add, Nat.add_zero, Nat.reduceAdd, List.cons_append, List.nil_append, List.eraseIdx_cons_zero, List.eraseIdx_cons_succ])
  refine W ?_
  refine RET fun h' HL => ?_
  try dsimp only [oneA]
  exact ⟨rfl, HL.le⟩

def tBit (x k : Int) : Int := ((x.toNat / 2 ^ k.toNat : Nat) : Int)

theorem tBit_nn (x k : Int) : 0 ≤ tBit x k := Int.natCast_nonneg _

theorem tBit_le {x k : Int} (h0 : 0 ≤ x) (h1 : x ≤ 1000000) : tBit x k ≤ 1000000 := by
  have := Nat.div_le_self x.toNat (2 ^ k.toNat)
  have h2 : ((x.toNat / 2 ^ k.toNat : Nat) : Int) ≤ (x.toNat : Int) := Int.ofNat_le.2 this
  unfold tBit
  omega

def tIn (n k : Int) : Int → List Int → List (Int × Int) × Int → List (Int × Int) × Int
  | _, [], s => s
  | i, x :: l, s => tIn n k (i + 1) l (if tBit x k % 2 = 1 then mkS n s.1 s.2 i else s)

def tDb (n : Int) (s : List (Int × Int) × Int) : List (Int × Int) × Int := if s.2 ≥ 0 then (s.1 ++ [stepM s.2 s.2], n + s.1.length) else s

def tRun (n : Int) (xs : List Int) : Nat → List (Int × Int) × Int → List (Int × Int) × Int
  | 0, s => s
  | k + 1, s => tRun n xs k (tIn n k 0 xs (tDb n s))

structure TInv (m : Int) (s : List (Int × Int) × Int) : Prop where
  os : okS s.1
  ln : (s.1.length : Int) ≤ m
  lo : -1 ≤ s.2
  hi : s.2 ≤ 4096

theorem TInv.up {m m' : Int} {s : List (Int × Int) × Int} (h : TInv m s) (hm : m ≤ m') : TInv m' s := ⟨h.os, by have := h.ln; omega, h.lo, h.hi⟩

theorem tDb_inv {n m : Int} {s : List (Int × Int) × Int} (h : TInv m s) (hn0 : 1 ≤ n) (hn1 : n ≤ 6) (hm : m ≤ 1000) : TInv (m + 1) (tDb n s) := by
  obtain ⟨h1, h2, h3, h4⟩ := h
  unfold tDb
  split
  · exact ⟨okS_snoc h1 ⟨by assumption, h4⟩ ⟨by assumption, h4⟩, by simp; omega, by simp; omega, by simp; omega⟩
  · exact ⟨h1, by omega, h3, h4⟩

theorem tIn_inv {n m i x k : Int} {s : List (Int × Int) × Int} (h : TInv m s) (hn0 : 1 ≤ n) (hn1 : n ≤ 6) (hm : m ≤ 1000) (hi0 : 0 ≤ i) (hi1 : i ≤ 6) : TInv (m + 1) (if tBit x k % 2 = 1 then mkS n s.1 s.2 i else s) := by
  obtain ⟨h1, h2, h3, h4⟩ := h
  split
  · refine ⟨okS_mkS h1 h4 ⟨hi0, by omega⟩, ?_, ?_, ?_⟩ <;> (unfold mkS; split <;> simp <;> omega)
  · exact ⟨h1, by omega, h3, h4⟩

def tLen (xs : List Int) : Nat := (dig2 (maxL 0 xs).toNat).length

def tEnd (xs : List Int) : List (Int × Int) × Int := tRun xs.length xs (tLen xs) ([], -1)

def togQ (xs : List Int) : PlanM := ⟨xs.length, (tEnd xs).1, [(tEnd xs).2]⟩

def togIn (xs : List Int) : Bool := decide (1 ≤ (xs.length : Int) ∧ (xs.length : Int) ≤ 6) && ((xs.all fun x => decide (0 ≤ x ∧ x ≤ 1000000)) && !decide (maxL 0 xs = 0))

def togOk (xs : List Int) : Bool := togIn xs && planOk (togQ xs)

def togR (xs : List Int) : PlanM := if togOk xs = true then togQ xs else emptyPlan

theorem maxL_bd {B : Int} : ∀ (l : List Int) (m : Int), 0 ≤ m → m ≤ B → (∀ x ∈ l, 0 ≤ x ∧ x ≤ B) → 0 ≤ maxL m l ∧ maxL m l ≤ B
  | [], m, h0, h1, _ => ⟨h0, h1⟩
  | x :: l, m, h0, h1, h => by
    have := h x (by simp)
    rw [maxL]
    exact maxL_bd l _ (by split <;> omega) (by split <;> omega) fun y hy => h y (by simp [hy])

theorem any_nall (xs : List Int) : (xs.any fun x => !decide (0 ≤ x ∧ x ≤ 1000000)) = !(xs.all fun x => decide (0 ≤ x ∧ x ≤ 1000000)) := by
  induction xs with
  | nil => rfl
  | cons x l ih => rw [List.any_cons, List.all_cons, ih, Bool.not_and]

theorem togIn_out {xs : List Int} (h : togIn xs = true) : 1 ≤ (xs.length : Int) ∧ (xs.length : Int) ≤ 6 ∧ (∀ x ∈ xs, 0 ≤ x ∧ x ≤ 1000000) ∧ maxL 0 xs ≠ 0 := by
  simp only [togIn, Bool.and_eq_true, Bool.not_eq_true', decide_eq_true_eq, decide_eq_false_iff_not, List.all_eq_true] at h
  exact ⟨h.1.1, h.1.2, h.2.1, h.2.2⟩

theorem specTog_ac (xs : List Int) (w : AV) (h : AH) (hR : Rd h w xs) (hl : xs.length ≤ 1048576) : AC Try.prog 42 [w] h (fun r h' => ∃ M, TupP (togR xs) (togOk xs) r M ∧ Loq h h' M) := by
  have hln := hR.len
  have none_ac : togIn xs = false → togR xs = emptyPlan ∧ togOk xs = false := fun e => by
    have hx : togOk xs = false := by rw [togOk, e, Bool.false_and]
    exact ⟨by rw [togR, hx, if_neg (by simp)], hx⟩
  refine e42 _ fun wf => ?_
  unfold c42
  refine LI_start wf ?_
  refine W ?_
  refine LS_al rfl fun b2 => ?_
  try (dsimp only [st, setL, AV.cells, List.set_cons_zero, List.set_cons_succ, List.drop_zero, List.drop_succ_cons, List.take_zero, List.take_succ_cons, Nat.zero_add, Nat.add_zero, Nat.reduceAdd, List.cons_append, List.nil_append, List.eraseIdx_cons_zero, List.eraseIdx_cons_succ])
  refine W ?_
  refine LS_c0' (fun h' HL wf => l1In_ac xs.length 1 6 h') rfl rfl ?_
  try (dsimp only [st, setL, AV.cells, List.set_cons_zero, List.set_cons_succ, List.drop_zero, List.drop_succ_cons, List.take_zero, List.take_succ_cons, Nat.zero_add, Nat.add_zero, Nat.reduceAdd, List.cons_append, List.nil_append, List.eraseIdx_cons_zero, List.eraseIdx_cons_succ])
  refine W ?_
  cases e1 : decide (1 ≤ (xs.length : Int) ∧ (xs.length : Int) ≤ 6)
  · obtain ⟨r1, r2⟩ := none_ac (by rw [togIn, e1]; rfl)
    rw [r1, r2]
    refine W ?_
    refine RET fun h' HL => ?_
    try dsimp only [oneA]
    exact TupP.none HL
  refine W ?_
  refine LS_c0' (fun h' HL wf => l1All_ac xs w 0 1000000 h' (hR.le HL.le) (by omega)) rfl rfl ?_
  try (dsimp only [st, setL, AV.cells, List.set_cons_zero, List.set_cons_succ, List.drop_zero, List.drop_succ_cons, List.take_zero, List.take_succ_cons, Nat.zero_add, Nat.add_zero, Nat.reduceAdd, List.cons_append, List.nil_append, List.eraseIdx_cons_zero, List.eraseIdx_cons_succ])
  refine W ?_
  cases e2 : (xs.all fun x => decide (0 ≤ x ∧ x ≤ 1000000))
  · obtain ⟨r1, r2⟩ := none_ac (by rw [togIn, e1, e2]; rfl)
    rw [r1, r2]
    refine W ?_
    refine RET fun h' HL => ?_
    try dsimp only [oneA]
    exact TupP.none HL
  refine W ?_
  refine LS_c0 (fun h' HL wf => meGreatest_ac xs w h' (hR.le HL.le) hl) rfl rfl ?_
  try (dsimp only [st, setL, AV.cells, List.set_cons_zero, List.set_cons_succ, List.drop_zero, List.drop_succ_cons, List.take_zero, List.take_succ_cons, Nat.zero_add, Nat.add_zero, Nat.reduceAdd, List.cons_append, List.nil_append, List.eraseIdx_cons_zero, List.eraseIdx_cons_succ])
  refine W ?_
  cases e3 : decide (maxL 0 xs = 0)
  rotate_left
  · obtain ⟨r1, r2⟩ := none_ac (by rw [togIn, e1, e2, e3]; rfl)
    rw [r1, r2]
    first | (refine LS_gyH rfl (e3) ?_; intro hg) | (refine LI_cond_tH rfl (e3) ?_; intro hg)
    refine W ?_
    refine RET fun h' HL => ?_
    try dsimp only [oneA]
    exact TupP.none HL
  first | (refine LS_gtnH rfl (e3) ?_; intro hg; try (dsimp only [st, setL, AV.cells, List.set_cons_zero, List.set_cons_succ, List.drop_zero, List.drop_succ_cons, List.take_zero, List.take_succ_cons, Nat.zero_add, Nat.add_zero, Nat.reduceAdd, List.cons_append, List.nil_append, List.eraseIdx_cons_zero, List.eraseIdx_cons_succ])) | (refine LS_gfnH rfl (e3) ?_; intro hg; try (dsimp only [st, setL, AV.cells, List.set_cons_zero, List.set_cons_succ, List.drop_zero, List.drop_succ_cons, List.take_zero, List.take_succ_cons, Nat.zero_add, Nat.add_zero, Nat.reduceAdd, List.cons_append, List.nil_append, List.eraseIdx_cons_zero, List.eraseIdx_cons_succ])) | (refine LI_cond_fH rfl (e3) ?_; intro hg)
  refine W ?_
  have hin : togIn xs = true := by rw [togIn, e1, e2, e3]; rfl
  obtain ⟨g1, g2, g3, g4⟩ := togIn_out hin
  have hmx := maxL_bd (B := 1000000) xs 0 (by omega) (by omega) g3
  refine LS_al rfl fun b4 => ?_
  try (dsimp only [st, setL, AV.cells, List.set_cons_zero, List.set_cons_succ, List.drop_zero, List.drop_succ_cons, List.take_zero, List.take_succ_cons, Nat.zero_add, Nat.add_zero, Nat.reduceAdd, List.cons_append, List.nil_append, List.eraseIdx_cons_zero, List.eraseIdx_cons_succ])
  refine W ?_
  refine LS_c0 (fun h' HL wf => meGreatest_ac xs w h' (hR.le HL.le) hl) rfl rfl ?_
  try (dsimp only [st, setL, AV.cells, List.set_cons_zero, List.set_cons_succ, List.drop_zero, List.drop_succ_cons, List.take_zero, List.take_succ_cons, Nat.zero_add, Nat.add_zero, Nat.reduceAdd, List.cons_append, List.nil_append, List.eraseIdx_cons_zero, List.eraseIdx_cons_succ])
  refine W ?_
  refine LS_c0 (fun h' HL wf => chLength_ac (maxL 0 xs) h' hmx.1 (by omega)) rfl rfl ?_
  try (dsimp only [st, setL, AV.cells, List.set_cons_zero, List.set_cons_succ, List.drop_zero, List.drop_succ_cons, List.take_zero, List.take_succ_cons, Nat.zero_add, Nat.add_zero, Nat.reduceAdd, List.cons_append, List.nil_append, List.eraseIdx_cons_zero, List.eraseIdx_cons_succ])
  refine W ?_
  have hdl := dig2_len 20 (maxL 0 xs).toNat (by omega)
  rw [show ((dig2 (maxL 0 xs).toNat).length : Int) = (tLen xs : Int) from rfl]
  rw [show (dig2 (maxL 0 xs).toNat).length = tLen xs from rfl] at hdl
  have hQ : togQ xs = ⟨xs.length, (tEnd xs).1, [(tEnd xs).2]⟩ := rfl
  have hE : tEnd xs = tRun xs.length xs (tLen xs) ([], -1) := rfl
  generalize tEnd xs = E at *
  generalize tLen xs = K at *
  refine W ?_
  refine LIL_nl (k := 2) ?_
  refine LIL_ind (fun m a L => ∃ (k : Int) (s : List (Int × Int) × Int) (u uo : AV), (∃ r : Nat → AV, a = [w, r 1, .p b2 0, r 3, .p b4 0, .i .i64 s.2, .i .i64 k, r 7, r 8, r 9, r 10, r 11, r 12, r 13, r 14, r 15, r 16, r 17, r 18, r 19, r 20, r 21, r 22, r 23, r 24, r 25, r 26, r 27, r 28, r 29, r 30, r 31, r 32, r 33, r 34, r 35, r 36, r 37, r 38, r 39, r 40, r 41, r 42, r 43, r 44, r 45, r 46, r 47, r 48, r 49, r 50, r 51, r 52, r 53, r 54, r 55, r 56, r 57, r 58, r 59, r 60, r 61, r 62, r 63, r 64, r 65, r 66, r 67, r 68, r 69, r 70, r 71, r 72]) ∧ L = [.sl u 2 (s.1.flatMap enStep), .pt b4 [.i .i64 xs.length, u, uo], .pt b2 [.i .i64 0, .ns, .ns]] ∧ (m : Int) = k + 1 ∧ m ≤ 20 ∧ E = tRun xs.length xs m s ∧ TInv (7 * (20 - m)) s ∧ lenA u = some s.1.length ∧ u.sc = true ∧ uo.sc = true)
    K ⟨(K : Int) - 1, ([], -1), .ns, .ns, exJ rfl, rfl, by omega, hdl, hE, ⟨(by intro s hs; cases hs), by simp; omega, by simp, by simp⟩, rfl, rfl, rfl⟩ ?_
  rintro m a L ⟨k, s, u, uo, ⟨r, rfl⟩, rfl, hk, hm20, heq, hI, lu, su, suo⟩ IH
  refine W ?_
  (first | refine LS_gt rfl ?_ ?_ | refine LS_gf rfl ?_ ?_ | refine LI_cond rfl ?_ ?_) <;> intro hc <;> have hc' := hc <;> try simp only [decide_eq_true_eq, decide_eq_false_iff_not, Bool.not_eq_true', Bool.not_eq_false', Bool.not_eq_true, Bool.not_eq_false, beq_iff_eq, bne_iff_ne, beq_eq_false_iff_ne, bne_eq_false_iff_eq, Int.not_lt, Int.not_le, ge_iff_le, gt_iff_lt, not_and, ne_eq, Decidable.not_not] at hc'
  all_goals (try (dsimp only [st, setL, AV.cells, List.set_cons_zero, List.set_cons_succ, List.drop_zero, List.drop_succ_cons, List.take_zero, List.take_succ_cons, Nat.zero_add, Nat.add_zero, Nat.reduceAdd, List.cons_append, List.nil_append, List.eraseIdx_cons_zero, List.eraseIdx_cons_succ]))
  all_goals (refine W ?_)
  · obtain ⟨m, rfl⟩ : ∃ q, m = q + 1 := ⟨m - 1, by omega⟩
    obtain rfl : k = (m : Int) := by omega
    have hI1 := tDb_inv (n := xs.length) hI (by omega) (by omega) (by omega)
    have hsl := hI.ln
    rw [tRun] at heq
    refine LI_post (fun a L => ∃ (u uo : AV), (∃ r : Nat → AV, a = [w, r 1, .p b2 0, r 3, .p b4 0, .i .i64 (tDb xs.length s).2, .i .i64 m, r 7, r 8, r 9, r 10, r 11, r 12, r 13, r 14, r 15, r 16, r 17, r 18, r 19, r 20, r 21, r 22, r 23, r 24, r 25, r 26, r 27, r 28, r 29, r 30, r 31, r 32, r 33, r 34, r 35, r 36, r 37, r 38, r 39, r 40, r 41, r 42, r 43, r 44, r 45, r 46, r 47, r 48, r 49, r 50, r 51, r 52, r 53, r 54, r 55, r 56, r 57, r 58, r 59, r 60, r 61, r 62, r 63, r 64, r 65, r 66, r 67, r 68, r 69, r 70, r 71, r 72]) ∧ lenA u = some (tDb xs.length s).1.length ∧ u.sc = true ∧ uo.sc = true ∧ ∀ h', Loq h h' L → Loq h h' [.sl u 2 ((tDb xs.length s).1.flatMap enStep), .pt b4 [.i .i64 xs.length, u, uo], .pt b2 [.i .i64 0, .ns, .ns]]) ?_ ?_
    · refine W ?_
      (first | refine LS_gt rfl ?_ ?_ | refine LS_gf rfl ?_ ?_ | refine LI_cond rfl ?_ ?_) <;> intro hc <;> have hc' := hc <;> try simp only [decide_eq_true_eq, decide_eq_false_iff_not, Bool.not_eq_true', Bool.not_eq_false', Bool.not_eq_true, Bool.not_eq_false, beq_iff_eq, bne_iff_ne, beq_eq_false_iff_ne, bne_eq_false_iff_eq, Int.not_lt, Int.not_le, ge_iff_le, gt_iff_lt, not_and, ne_eq, Decidable.not_not] at hc'
      all_goals (try (dsimp only [st, setL, AV.cells, List.set_cons_zero, List.set_cons_succ, List.drop_zero, List.drop_succ_cons, List.take_zero, List.take_succ_cons, Nat.zero_add, Nat.add_zero, Nat.reduceAdd, List.cons_append, List.nil_append, List.eraseIdx_cons_zero, List.eraseIdx_cons_succ]))
      all_goals (refine W ?_)
      · rw [tDb, if_pos hc']
        refine LS_c1 (fun h' HL wf => meTimes_ac xs.length s.1 s.2 s.2 u uo h' (HL.rdI 0 rfl enStep2 (by decide)) suo (by omega) (by omega) (by omega)) rfl rfl ?_
        try (dsimp only [st, setL, AV.cells, List.set_cons_zero, List.set_cons_succ, List.drop_zero, List.drop_succ_cons, List.take_zero, List.take_succ_cons, Nat.zero_add, Nat.add_zero, Nat.reduceAdd, List.cons_append, List.nil_append, List.eraseIdx_cons_zero, List.eraseIdx_cons_succ])
        refine W ?_
        rintro _ _ ⟨w2, rfl, lw, sw, rfl⟩
        try (dsimp only [st, setL, AV.cells, List.set_cons_zero, List.set_cons_succ, List.drop_zero, List.drop_succ_cons, List.take_zero, List.take_succ_cons, Nat.zero_add, Nat.add_zero, Nat.reduceAdd, List.cons_append, List.nil_append, List.eraseIdx_cons_zero, List.eraseIdx_cons_succ])
        refine W ?_
        exact ⟨rfl, _, _, exJ rfl, lw, sw, rfl, fun h' HL => HL.sel [0, 2, 3] (by decide)⟩
      · rw [tDb, if_neg (by omega)]
        exact ⟨rfl, _, _, exJ rfl, lu, su, suo, fun h' HL => HL⟩
    · rintro _ L ⟨u', uo', ⟨r, rfl⟩, lu', su', suo', hL⟩
      refine LThen_n ?_
      refine W ?_
      refine LIL_conv hL ?_
      generalize tDb xs.length s = s1 at *
      refine LIL_ind (fun mm a L => ∃ (i : Int) (s : List (Int × Int) × Int) (u uo : AV), (∃ r : Nat → AV, a = [w, r 1, .p b2 0, r 3, .p b4 0, .i .i64 s.2, .i .i64 m, r 7, r 8, r 9, r 10, r 11, r 12, r 13, r 14, r 15, r 16, r 17, r 18, r 19, r 20, r 21, r 22, r 23, r 24, r 25, r 26, r 27, r 28, r 29, r 30, r 31, r 32, r 33, r 34, r 35, r 36, r 37, r 38, r 39, r 40, r 41, r 42, r 43, w, .i .i64 xs.length, .i .i64 i, r 47, r 48, r 49, r 50, r 51, r 52, r 53, r 54, r 55, r 56, r 57, r 58, r 59, r 60, r 61, r 62, r 63, r 64, r 65, r 66, r 67, r 68, r 69, r 70, r 71, r 72]) ∧ L = [.sl u 2 (s.1.flatMap enStep), .pt b4 [.i .i64 xs.length, u, uo], .pt b2 [.i .i64 0, .ns, .ns]] ∧ 0 ≤ i ∧ i + mm = xs.length ∧ tIn xs.length m 0 xs s1 = tIn xs.length m i (xs.drop i.toNat) s ∧ TInv (7 * (20 - (m + 1 : Nat)) + 1 + i) s ∧ lenA u = some s.1.length ∧ u.sc = true ∧ uo.sc = true)
        xs.length ⟨0, s1, u', uo', exJ rfl, rfl, by omega, by omega, rfl, hI1.up (by omega), lu', su', suo'⟩ ?_
      rintro mm a L ⟨i, s2, u2, uo2, ⟨r, rfl⟩, rfl, hi0, hmm, heq2, hI2, lu2, su2, suo2⟩ IH2
      refine W ?_
      (first | refine LS_gt rfl ?_ ?_ | refine LS_gf rfl ?_ ?_ | refine LI_cond rfl ?_ ?_) <;> intro hc <;> have hc' := hc <;> try simp only [decide_eq_true_eq, decide_eq_false_iff_not, Bool.not_eq_true', Bool.not_eq_false', Bool.not_eq_true, Bool.not_eq_false, beq_iff_eq, bne_iff_ne, beq_eq_false_iff_ne, bne_eq_false_iff_eq, Int.not_lt, Int.not_le, ge_iff_le, gt_iff_lt, not_and, ne_eq, Decidable.not_not] at hc'
      all_goals (try (dsimp only [st, setL, AV.cells, List.set_cons_zero, List.set_cons_succ, List.drop_zero, List.drop_succ_cons, List.take_zero, List.take_succ_cons, Nat.zero_add, Nat.add_zero, Nat.reduceAdd, List.cons_append, List.nil_append, List.eraseIdx_cons_zero, List.eraseIdx_cons_succ]))
      all_goals (refine W ?_)
      · obtain ⟨x, hx1, hxm, hd⟩ := drop_at (l := xs) hi0 hc'
        have hxb := g3 x hxm
        have hI3 := tIn_inv (n := xs.length) (i := i) (x := x) (k := m) hI2 (by omega) (by omega) (by omega) hi0 (by omega)
        have hsl2 := hI2.ln
        rw [hd, tIn] at heq2
        refine LS_ix (fun h' HL => hR.le HL.le) enI1 hx1 hi0 rfl rfl fun q1 o1 hrow1 => ?_
        try (dsimp only [st, setL, AV.cells, List.set_cons_zero, List.set_cons_succ, List.drop_zero, List.drop_succ_cons, List.take_zero, List.take_succ_cons, Nat.zero_add, Nat.add_zero, Nat.reduceAdd, List.cons_append, List.nil_append, List.eraseIdx_cons_zero, List.eraseIdx_cons_succ])
        refine W ?_
        refine LS_shk rfl rfl (by omega) (by omega) hxb.1 (by decide) ?_
        try (dsimp only [st, setL, AV.cells, List.set_cons_zero, List.set_cons_succ, List.drop_zero, List.drop_succ_cons, List.take_zero, List.take_succ_cons, Nat.zero_add, Nat.add_zero, Nat.reduceAdd, List.cons_append, List.nil_append, List.eraseIdx_cons_zero, List.eraseIdx_cons_succ])
        refine W ?_
        rw [show ((x.toNat / 2 ^ (m : Int).toNat : Nat) : Int) = tBit x m from rfl]
        have hb0 : 0 ≤ tBit x m := tBit_nn x m
        refine LS_v (OpV_rem rfl rfl (by omega)) ?_
        try (dsimp only [st, setL, AV.cells, List.set_cons_zero, List.set_cons_succ, List.drop_zero, List.drop_succ_cons, List.take_zero, List.take_succ_cons, Nat.zero_add, Nat.add_zero, Nat.reduceAdd, List.cons_append, List.nil_append, List.eraseIdx_cons_zero, List.eraseIdx_cons_succ])
        refine W ?_
        rw [Int.tmod_eq_emod_of_nonneg hb0]
        (first | refine LS_gt rfl ?_ ?_ | refine LS_gf rfl ?_ ?_ | refine LI_cond rfl ?_ ?_) <;> intro hc <;> have hc' := hc <;> try simp only [decide_eq_true_eq, decide_eq_false_iff_not, Bool.not_eq_true', Bool.not_eq_false', Bool.not_eq_true, Bool.not_eq_false, beq_iff_eq, bne_iff_ne, beq_eq_false_iff_ne, bne_eq_false_iff_eq, Int.not_lt, Int.not_le, ge_iff_le, gt_iff_lt, not_and, ne_eq, Decidable.not_not] at hc'
        all_goals (try (dsimp only [st, setL, AV.cells, List.set_cons_zero, List.set_cons_succ, List.drop_zero, List.drop_succ_cons, List.take_zero, List.take_succ_cons, Nat.zero_add, Nat.add_zero, Nat.reduceAdd, List.cons_append, List.nil_append, List.eraseIdx_cons_zero, List.eraseIdx_cons_succ]))
        all_goals (refine W ?_)
        · rw [if_neg (by omega)] at heq2 hI3
          refine IH2 (mm - 1) _ _ (by omega) ⟨i + 1, s2, _, _, exJ rfl, rfl, by omega, by omega, by rw [toNat_succ hi0]; exact heq2, hI3.up (by omega), lu2, su2, suo2⟩
        · rw [if_pos (by omega)] at heq2 hI3
          (first | refine LS_gt rfl ?_ ?_ | refine LS_gf rfl ?_ ?_ | refine LI_cond rfl ?_ ?_) <;> intro hc <;> have hc' := hc <;> try simp only [decide_eq_true_eq, decide_eq_false_iff_not, Bool.not_eq_true', Bool.not_eq_false', Bool.not_eq_true, Bool.not_eq_false, beq_iff_eq, bne_iff_ne, beq_eq_false_iff_ne, bne_eq_false_iff_eq, Int.not_lt, Int.not_le, ge_iff_le, gt_iff_lt, not_and, ne_eq, Decidable.not_not] at hc'
          all_goals (try (dsimp only [st, setL, AV.cells, List.set_cons_zero, List.set_cons_succ, List.drop_zero, List.drop_succ_cons, List.take_zero, List.take_succ_cons, Nat.zero_add, Nat.add_zero, Nat.reduceAdd, List.cons_append, List.nil_append, List.eraseIdx_cons_zero, List.eraseIdx_cons_succ]))
          all_goals (refine W ?_)
          · rw [mkS, if_pos hc'] at heq2 hI3
            refine IH2 (mm - 1) _ _ (by omega) ⟨i + 1, (s2.1, i), _, _, exJ rfl, rfl, by omega, by omega, by rw [toNat_succ hi0]; exact heq2, hI3.up (by omega), lu2, su2, suo2⟩
          · rw [mkS, if_neg (by omega)] at heq2 hI3
            refine LS_c1 (fun h' HL wf => meTimes_ac xs.length s2.1 s2.2 i u2 uo2 h' (HL.rdI 0 rfl enStep2 (by decide)) suo2 (by omega) (by omega) (by omega)) rfl rfl ?_
            try (dsimp only [st, setL, AV.cells, List.set_cons_zero, List.set_cons_succ, List.drop_zero, List.drop_succ_cons, List.take_zero, List.take_succ_cons, Nat.zero_add, Nat.add_zero, Nat.reduceAdd, List.cons_append, List.nil_append, List.eraseIdx_cons_zero, List.eraseIdx_cons_succ])
            refine W ?_
            rintro _ _ ⟨w2, rfl, lw, sw, rfl⟩
            try (dsimp only [st, setL, AV.cells, List.set_cons_zero, List.set_cons_succ, List.drop_zero, List.drop_succ_cons, List.take_zero, List.take_succ_cons, Nat.zero_add, Nat.add_zero, Nat.reduceAdd, List.cons_append, List.nil_append, List.eraseIdx_cons_zero, List.eraseIdx_cons_succ])
            refine W ?_
            refine LIL_conv (L' := [.sl w2 2 ((s2.1 ++ [stepM s2.2 i]).flatMap enStep), .pt b4 [.i .i64 xs.length, w2, .ns], .pt b2 [.i .i64 0, .ns, .ns]]) (fun h' HL => HL.sel [0, 2, 3] (by decide)) ?_
            refine IH2 (mm - 1) _ _ (by omega) ⟨i + 1, (s2.1 ++ [stepM s2.2 i], xs.length + s2.1.length), _, _, exJ rfl, rfl, by omega, by omega, by rw [toNat_succ hi0]; exact heq2, hI3.up (by omega), lw, sw, rfl⟩
      · rw [List.drop_eq_nil_of_le (by omega), tIn] at heq2
        rw [heq2] at heq
        refine W ?_
        refine IH m _ _ (by omega) ⟨(m : Int) - 1, s2, _, _, exJ rfl, rfl, by omega, by omega, heq, hI2.up (by omega), lu2, su2, suo2⟩
  · obtain rfl : m = 0 := by omega
    rw [tRun] at heq
    subst heq
    have hsl := hI.ln
    have hq0 : PSm (togQ xs) := by rw [hQ]; exact psm_r (by omega) hI.os (by omega) hI.lo hI.hi
    refine LS_c1 (fun h' HL wf => meEnd_ac xs.length E.1 E.2 u uo h' (HL.rdI 0 rfl enStep2 (by decide)) suo) rfl rfl ?_
    try (dsimp only [st, setL, AV.cells, List.set_cons_zero, List.set_cons_succ, List.drop_zero, List.drop_succ_cons, List.take_zero, List.take_succ_cons, Nat.zero_add, Nat.add_zero, Nat.reduceAdd, List.cons_append, List.nil_append, List.eraseIdx_cons_zero, List.eraseIdx_cons_succ])
    refine W ?_
    rintro _ _ ⟨wq, rfl, lq, sq, rfl⟩
    try (dsimp only [st, setL, AV.cells, List.set_cons_zero, List.set_cons_succ, List.drop_zero, List.drop_succ_cons, List.take_zero, List.take_succ_cons, Nat.zero_add, Nat.add_zero, Nat.reduceAdd, List.cons_append, List.nil_append, List.eraseIdx_cons_zero, List.eraseIdx_cons_succ])
    refine W ?_
    cases hq : planOk (togQ xs)
    · have hx : togOk xs = false := by rw [togOk, hq, Bool.and_false]
      rw [togR, hx, if_neg (by simp)]
      rw [hQ] at hq0 hq
      refine LS_c0 (fun h' HL wf => plIf_f ⟨xs.length, E.1, [E.2]⟩ _ h' (plr_of HL 1 0 rfl rfl) hq0 hq) rfl rfl ?_
      try (dsimp only [st, setL, AV.cells, List.set_cons_zero, List.set_cons_succ, List.drop_zero, List.drop_succ_cons, List.take_zero, List.take_succ_cons, Nat.zero_add, Nat.add_zero, Nat.reduceAdd, List.cons_append, List.nil_append, List.eraseIdx_cons_zero, List.eraseIdx_cons_succ])
      refine W ?_
      refine RET fun h' HL => ?_
      try dsimp only [oneA]
      exact TupP.none HL
    · have hx : togOk xs = true := by rw [togOk, hq, hin]; rfl
      rw [togR, hx, if_pos rfl, hQ]
      rw [hQ] at hq0 hq
      refine LS_c0 (fun h' HL wf => plIf_t ⟨xs.length, E.1, [E.2]⟩ _ h' (plr_of HL 1 0 rfl rfl) hq0 hq) rfl rfl ?_
      try (dsimp only [st, setL, AV.cells, List.set_cons_zero, List.set_cons_succ, List.drop_zero, List.drop_succ_cons, List.take_zero, List.take_succ_cons, Nat.zero_add, Nat.add_zero, Nat.reduceAdd, List.cons_append, List.nil_append, List.eraseIdx_cons_zero, List.eraseIdx_cons_succ])
      refine W ?_
      refine RET fun h' HL => ?_
      try dsimp only [oneA]
      exact ⟨_, ⟨u, wq, rfl, lu, su, lq, sq, rfl⟩, HL.sel [1, 0] (by decide)⟩

/-! ### Plans for several powers together: the program -/
theorem u64_id {x : Int} (h0 : 0 ≤ x) (h1 : x ≤ 4611686018427387904) : IntKind.u64.wrap x = x := by
  unfold IntKind.wrap
  simp [IntKind.bits, IntKind.signed]
  omega

theorem maxL_hd {y : Int} (l : List Int) (h : 0 ≤ y) : maxL 0 (y :: l) = maxL y l := by rw [maxL, show (if y > 0 then y else 0) = y by split <;> omega]

theorem implTog_ac (xs : List Int) (w : AV) (h : AH) (hR : Rd h w xs) (hl : xs.length ≤ 1048576) : AC Try.prog 44 [w] h (fun r h' => ∃ M, TupP (togR xs) (togOk xs) r M ∧ Loq h h' M) := by
  have hln := hR.len
  have none_ac : togIn xs = false → togR xs = emptyPlan ∧ togOk xs = false := fun e => by
    have hx : togOk xs = false := by rw [togOk, e, Bool.false_and]
    exact ⟨by rw [togR, hx, if_neg (by simp)], hx⟩
  refine e44 _ fun wf => ?_
  unfold c44
  refine LI_start wf ?_
  refine W ?_
  refine LS_al rfl fun b2 => ?_
  try (dsimp only [st, setL, AV.cells, List.set_cons_zero, List.set_cons_succ, List.drop_zero, List.drop_succ_cons, List.take_zero, List.take_succ_cons, Nat.zero_add, Nat.add_zero, Nat.reduceAdd, List.cons_append, List.nil_append, List.eraseIdx_cons_zero, List.eraseIdx_cons_succ])
  refine W ?_
  refine LS_c0' (fun h' HL wf => in_ac xs.length 1 6 h') rfl rfl ?_
  try (dsimp only [st, setL, AV.cells, List.set_cons_zero, List.set_cons_succ, List.drop_zero, List.drop_succ_cons, List.take_zero, List.take_succ_cons, Nat.zero_add, Nat.add_zero, Nat.reduceAdd, List.cons_append, List.nil_append, List.eraseIdx_cons_zero, List.eraseIdx_cons_succ])
  refine W ?_
  cases e1 : decide (1 ≤ (xs.length : Int) ∧ (xs.length : Int) ≤ 6)
  · obtain ⟨r1, r2⟩ := none_ac (by rw [togIn, e1]; rfl)
    rw [r1, r2]
    refine W ?_
    refine RET fun h' HL => ?_
    try dsimp only [oneA]
    exact TupP.none HL
  refine W ?_
  refine LS_c0 (fun h' HL wf => ContainsFunc_int_ac xs w 106 [] (fun x => !decide (0 ≤ x ∧ x ≤ 1000000)) h' (hR.le HL.le) (by omega) (fun x hx h2 hle => Together1_ac x h2)) rfl rfl ?_
  try (dsimp only [st, setL, AV.cells, List.set_cons_zero, List.set_cons_succ, List.drop_zero, List.drop_succ_cons, List.take_zero, List.take_succ_cons, Nat.zero_add, Nat.add_zero, Nat.reduceAdd, List.cons_append, List.nil_append, List.eraseIdx_cons_zero, List.eraseIdx_cons_succ])
  refine W ?_
  rw [any_nall]
  cases e2 : (xs.all fun x => decide (0 ≤ x ∧ x ≤ 1000000))
  · obtain ⟨r1, r2⟩ := none_ac (by rw [togIn, e1, e2]; rfl)
    rw [r1, r2]
    refine W ?_
    refine RET fun h' HL => ?_
    try dsimp only [oneA]
    exact TupP.none HL
  refine W ?_
  have hmaxac : ∀ h', h.le h' → AC Try.prog 107 [w] h' (fun r h2 => r = .i .i64 (maxL 0 xs) ∧ h'.le h2) := fun h' hle => by
    cases xs with
    | nil => simp at e1
    | cons y l =>
      have hy : 0 ≤ y := by
        simp only [List.all_cons, Bool.and_eq_true, decide_eq_true_eq] at e2
        exact e2.1.1
      rw [maxL_hd l hy]
      exact Max_ac y l w h' (hR.le hle) (by simp at hl; omega)
  refine LS_c0 (fun h' HL wf => hmaxac h' HL.le) rfl rfl ?_
  try (dsimp only [st, setL, AV.cells, List.set_cons_zero, List.set_cons_succ, List.drop_zero, List.drop_succ_cons, List.take_zero, List.take_succ_cons, Nat.zero_add, Nat.add_zero, Nat.reduceAdd, List.cons_append, List.nil_append, List.eraseIdx_cons_zero, List.eraseIdx_cons_succ])
  refine W ?_
  cases e3 : decide (maxL 0 xs = 0)
  rotate_left
  · obtain ⟨r1, r2⟩ := none_ac (by rw [togIn, e1, e2, e3]; rfl)
    rw [r1, r2]
    first | (refine LS_gyH rfl (e3) ?_; intro hg) | (refine LI_cond_tH rfl (e3) ?_; intro hg)
    refine W ?_
    refine RET fun h' HL => ?_
    try dsimp only [oneA]
    exact TupP.none HL
  first | (refine LS_gtnH rfl (e3) ?_; intro hg; try (dsimp only [st, setL, AV.cells, List.set_cons_zero, List.set_cons_succ, List.drop_zero, List.drop_succ_cons, List.take_zero, List.take_succ_cons, Nat.zero_add, Nat.add_zero, Nat.reduceAdd, List.cons_append, List.nil_append, List.eraseIdx_cons_zero, List.eraseIdx_cons_succ])) | (refine LS_gfnH rfl (e3) ?_; intro hg; try (dsimp only [st, setL, AV.cells, List.set_cons_zero, List.set_cons_succ, List.drop_zero, List.drop_succ_cons, List.take_zero, List.take_succ_cons, Nat.zero_add, Nat.add_zero, Nat.reduceAdd, List.cons_append, List.nil_append, List.eraseIdx_cons_zero, List.eraseIdx_cons_succ])) | (refine LI_cond_fH rfl (e3) ?_; intro hg)
  refine W ?_
  have hin : togIn xs = true := by rw [togIn, e1, e2, e3]; rfl
  obtain ⟨g1, g2, g3, g4⟩ := togIn_out hin
  have hmx := maxL_bd (B := 1000000) xs 0 (by omega) (by omega) g3
  refine LS_c1 (fun h' HL wf => newMaker_ac xs.length h') rfl rfl ?_
  try (dsimp only [st, setL, AV.cells, List.set_cons_zero, List.set_cons_succ, List.drop_zero, List.drop_succ_cons, List.take_zero, List.take_succ_cons, Nat.zero_add, Nat.add_zero, Nat.reduceAdd, List.cons_append, List.nil_append, List.eraseIdx_cons_zero, List.eraseIdx_cons_succ])
  refine W ?_
  rintro _ _ ⟨b4, rfl, rfl⟩
  try (dsimp only [st, setL, AV.cells, List.set_cons_zero, List.set_cons_succ, List.drop_zero, List.drop_succ_cons, List.take_zero, List.take_succ_cons, Nat.zero_add, Nat.add_zero, Nat.reduceAdd, List.cons_append, List.nil_append, List.eraseIdx_cons_zero, List.eraseIdx_cons_succ])
  refine W ?_
  refine LS_c0 (fun h' HL wf => hmaxac h' HL.le) rfl rfl ?_
  try (dsimp only [st, setL, AV.cells, List.set_cons_zero, List.set_cons_succ, List.drop_zero, List.drop_succ_cons, List.take_zero, List.take_succ_cons, Nat.zero_add, Nat.add_zero, Nat.reduceAdd, List.cons_append, List.nil_append, List.eraseIdx_cons_zero, List.eraseIdx_cons_succ])
  refine W ?_
  rw [show IntKind.u64.wrap (maxL 0 xs) = maxL 0 xs from u64_id hmx.1 (by omega)]
  refine LS_c0 (fun h' HL wf => LenB_ac (maxL 0 xs) h' hmx.1 (by omega)) rfl rfl ?_
  try (dsimp only [st, setL, AV.cells, List.set_cons_zero, List.set_cons_succ, List.drop_zero, List.drop_succ_cons, List.take_zero, List.take_succ_cons, Nat.zero_add, Nat.add_zero, Nat.reduceAdd, List.cons_append, List.nil_append, List.eraseIdx_cons_zero, List.eraseIdx_cons_succ])
  refine W ?_
  have hdl := dig2_len 20 (maxL 0 xs).toNat (by omega)
  rw [show ((dig2 (maxL 0 xs).toNat).length : Int) = (tLen xs : Int) from rfl]
  rw [show (dig2 (maxL 0 xs).toNat).length = tLen xs from rfl] at hdl
  have hQ : togQ xs = ⟨xs.length, (tEnd xs).1, [(tEnd xs).2]⟩ := rfl
  have hE : tEnd xs = tRun xs.length xs (tLen xs) ([], -1) := rfl
  generalize tEnd xs = E at *
  generalize tLen xs = K at *
  clear hmaxac
  refine W ?_
  refine LIL_nl (k := 2) ?_
  refine LIL_conv (L' := [.pt b4 [.i .i64 xs.length, .ns, .ns], .sl .ns 2 (([] : List (Int × Int)).flatMap enStep), .pt b2 [.i .i64 0, .ns, .ns]]) (fun h' HL => HL.sel [1, 0, 2] (by decide)) ?_
  refine LIL_ind (fun m a L => ∃ (k : Int) (s : List (Int × Int) × Int) (u : AV), (∃ r : Nat → AV, a = [w, r 1, .p b2 0, r 3, .p b4 0, .i .i64 s.2, .i .i64 k, r 7, r 8, r 9, r 10, r 11, r 12, r 13, r 14, r 15, r 16, r 17, r 18, r 19, r 20, r 21, r 22, r 23, r 24, r 25, r 26, r 27, r 28, r 29, r 30, r 31, r 32, r 33, r 34, r 35, r 36, r 37, r 38, r 39, r 40, r 41, r 42, r 43, r 44, r 45, r 46, r 47, r 48, r 49, r 50, r 51, r 52, r 53, r 54, r 55, r 56, r 57, r 58, r 59, r 60, r 61, r 62, r 63, r 64]) ∧ L = [.pt b4 [.i .i64 xs.length, u, .ns], .sl u 2 (s.1.flatMap enStep), .pt b2 [.i .i64 0, .ns, .ns]] ∧ (m : Int) = k + 1 ∧ m ≤ 20 ∧ E = tRun xs.length xs m s ∧ TInv (7 * (20 - m)) s ∧ lenA u = some s.1.length ∧ u.sc = true)
    K ⟨(K : Int) - 1, ([], -1), .ns, exJ rfl, rfl, by omega, hdl, hE, ⟨(by intro s hs; cases hs), by simp; omega, by simp, by simp⟩, rfl, rfl⟩ ?_
  rintro m a L ⟨k, s, u, ⟨r, rfl⟩, rfl, hk, hm20, heq, hI, lu, su⟩ IH
  refine W ?_
  (first | refine LS_gt rfl ?_ ?_ | refine LS_gf rfl ?_ ?_ | refine LI_cond rfl ?_ ?_) <;> intro hc <;> have hc' := hc <;> try simp only [decide_eq_true_eq, decide_eq_false_iff_not, Bool.not_eq_true', Bool.not_eq_false', Bool.not_eq_true, Bool.not_eq_false, beq_iff_eq, bne_iff_ne, beq_eq_false_iff_ne, bne_eq_false_iff_eq, Int.not_lt, Int.not_le, ge_iff_le, gt_iff_lt, not_and, ne_eq, Decidable.not_not] at hc'
  all_goals (try (dsimp only [st, setL, AV.cells, List.set_cons_zero, List.set_cons_succ, List.drop_zero, List.drop_succ_cons, List.take_zero, List.take_succ_cons, Nat.zero_add, Nat.add_zero, Nat.reduceAdd, List.cons_append, List.nil_append, List.eraseIdx_cons_zero, List.eraseIdx_cons_succ]))
  all_goals (refine W ?_)
  · obtain ⟨m, rfl⟩ : ∃ q, m = q + 1 := ⟨m - 1, by omega⟩
    obtain rfl : k = (m : Int) := by omega
    have hI1 := tDb_inv (n := xs.length) hI (by omega) (by omega) (by omega)
    have hsl := hI.ln
    rw [tRun] at heq
    refine LI_post (fun a L => ∃ (u : AV), (∃ r : Nat → AV, a = [w, r 1, .p b2 0, r 3, .p b4 0, .i .i64 (tDb xs.length s).2, .i .i64 m, r 7, r 8, r 9, r 10, r 11, r 12, r 13, r 14, r 15, r 16, r 17, r 18, r 19, r 20, r 21, r 22, r 23, r 24, r 25, r 26, r 27, r 28, r 29, r 30, r 31, r 32, r 33, r 34, r 35, r 36, r 37, r 38, r 39, r 40, r 41, r 42, r 43, r 44, r 45, r 46, r 47, r 48, r 49, r 50, r 51, r 52, r 53, r 54, r 55, r 56, r 57, r 58, r 59, r 60, r 61, r 62, r 63, r 64]) ∧ L = [.pt b4 [.i .i64 xs.length, u, .ns], .sl u 2 ((tDb xs.length s).1.flatMap enStep), .pt b2 [.i .i64 0, .ns, .ns]] ∧ lenA u = some (tDb xs.length s).1.length ∧ u.sc = true) ?_ ?_
    · refine W ?_
      (first | refine LS_gt rfl ?_ ?_ | refine LS_gf rfl ?_ ?_ | refine LI_cond rfl ?_ ?_) <;> intro hc <;> have hc' := hc <;> try simp only [decide_eq_true_eq, decide_eq_false_iff_not, Bool.not_eq_true', Bool.not_eq_false', Bool.not_eq_true, Bool.not_eq_false, beq_iff_eq, bne_iff_ne, beq_eq_false_iff_ne, bne_eq_false_iff_eq, Int.not_lt, Int.not_le, ge_iff_le, gt_iff_lt, not_and, ne_eq, Decidable.not_not] at hc'
      all_goals (try (dsimp only [st, setL, AV.cells, List.set_cons_zero, List.set_cons_succ, List.drop_zero, List.drop_succ_cons, List.take_zero, List.take_succ_cons, Nat.zero_add, Nat.add_zero, Nat.reduceAdd, List.cons_append, List.nil_append, List.eraseIdx_cons_zero, List.eraseIdx_cons_succ]))
      all_goals (refine W ?_)
      · rw [tDb, if_pos hc']
        refine LS_cm (.refl _) (fun h' HL wf => multiply_ac xs.length s.1 u .ns s.2 s.2 b4 h h' _ HL (by omega) (by omega) (by omega)) rfl rfl ?_
        try (dsimp only [st, setL, AV.cells, List.set_cons_zero, List.set_cons_succ, List.drop_zero, List.drop_succ_cons, List.take_zero, List.take_succ_cons, Nat.zero_add, Nat.add_zero, Nat.reduceAdd, List.cons_append, List.nil_append, List.eraseIdx_cons_zero, List.eraseIdx_cons_succ])
        refine W ?_
        rintro _ _ ⟨w2, rfl, lw, sw, rfl⟩
        try (dsimp only [st, setL, AV.cells, List.set_cons_zero, List.set_cons_succ, List.drop_zero, List.drop_succ_cons, List.take_zero, List.take_succ_cons, Nat.zero_add, Nat.add_zero, Nat.reduceAdd, List.cons_append, List.nil_append, List.eraseIdx_cons_zero, List.eraseIdx_cons_succ])
        refine W ?_
        exact ⟨rfl, _, exJ rfl, rfl, lw, sw⟩
      · rw [tDb, if_neg (by omega)]
        exact ⟨rfl, _, exJ rfl, rfl, lu, su⟩
    · rintro _ _ ⟨u', ⟨r, rfl⟩, rfl, lu', su'⟩
      refine LThen_n ?_
      refine W ?_
      generalize tDb xs.length s = s1 at *
      refine LIL_ind (fun mm a L => ∃ (i : Int) (s : List (Int × Int) × Int) (u : AV), (∃ r : Nat → AV, a = [w, r 1, .p b2 0, r 3, .p b4 0, .i .i64 s.2, .i .i64 m, r 7, r 8, r 9, r 10, r 11, r 12, r 13, r 14, r 15, r 16, r 17, r 18, r 19, r 20, r 21, r 22, r 23, r 24, r 25, r 26, r 27, r 28, r 29, r 30, r 31, r 32, r 33, r 34, r 35, r 36, r 37, r 38, r 39, r 40, w, .i .i64 xs.length, .i .i64 i, r 44, r 45, r 46, r 47, r 48, r 49, r 50, r 51, r 52, r 53, r 54, r 55, r 56, r 57, r 58, r 59, r 60, r 61, r 62, r 63, r 64]) ∧ L = [.pt b4 [.i .i64 xs.length, u, .ns], .sl u 2 (s.1.flatMap enStep), .pt b2 [.i .i64 0, .ns, .ns]] ∧ 0 ≤ i ∧ i + mm = xs.length ∧ tIn xs.length m 0 xs s1 = tIn xs.length m i (xs.drop i.toNat) s ∧ TInv (7 * (20 - (m + 1 : Nat)) + 1 + i) s ∧ lenA u = some s.1.length ∧ u.sc = true)
        xs.length ⟨0, s1, u', exJ rfl, rfl, by omega, by omega, rfl, hI1.up (by omega), lu', su'⟩ ?_
      rintro mm a L ⟨i, s2, u2, ⟨r, rfl⟩, rfl, hi0, hmm, heq2, hI2, lu2, su2⟩ IH2
      refine W ?_
      (first | refine LS_gt rfl ?_ ?_ | refine LS_gf rfl ?_ ?_ | refine LI_cond rfl ?_ ?_) <;> intro hc <;> have hc' := hc <;> try simp only [decide_eq_true_eq, decide_eq_false_iff_not, Bool.not_eq_true', Bool.not_eq_false', Bool.not_eq_true, Bool.not_eq_false, beq_iff_eq, bne_iff_ne, beq_eq_false_iff_ne, bne_eq_false_iff_eq, Int.not_lt, Int.not_le, ge_iff_le, gt_iff_lt, not_and, ne_eq, Decidable.not_not] at hc'
      all_goals (try (dsimp only [st, setL, AV.cells, List.set_cons_zero, List.set_cons_succ, List.drop_zero, List.drop_succ_cons, List.take_zero, List.take_succ_cons, Nat.zero_add, Nat.add_zero, Nat.reduceAdd, List.cons_append, List.nil_append, List.eraseIdx_cons_zero, List.eraseIdx_cons_succ]))
      all_goals (refine W ?_)
      · obtain ⟨x, hx1, hxm, hd⟩ := drop_at (l := xs) hi0 hc'
        have hxb := g3 x hxm
        have hI3 := tIn_inv (n := xs.length) (i := i) (x := x) (k := m) hI2 (by omega) (by omega) (by omega) hi0 (by omega)
        have hsl2 := hI2.ln
        rw [hd, tIn] at heq2
        refine LS_ix (fun h' HL => hR.le HL.le) enI1 hx1 hi0 rfl rfl fun q1 o1 hrow1 => ?_
        try (dsimp only [st, setL, AV.cells, List.set_cons_zero, List.set_cons_succ, List.drop_zero, List.drop_succ_cons, List.take_zero, List.take_succ_cons, Nat.zero_add, Nat.add_zero, Nat.reduceAdd, List.cons_append, List.nil_append, List.eraseIdx_cons_zero, List.eraseIdx_cons_succ])
        refine W ?_
        refine LS_shk rfl rfl (by omega) (by omega) hxb.1 (by decide) ?_
        try (dsimp only [st, setL, AV.cells, List.set_cons_zero, List.set_cons_succ, List.drop_zero, List.drop_succ_cons, List.take_zero, List.take_succ_cons, Nat.zero_add, Nat.add_zero, Nat.reduceAdd, List.cons_append, List.nil_append, List.eraseIdx_cons_zero, List.eraseIdx_cons_succ])
        refine W ?_
        rw [show ((x.toNat / 2 ^ (m : Int).toNat : Nat) : Int) = tBit x m from rfl]
        have hb0 : 0 ≤ tBit x m := tBit_nn x m
        have hb1 : tBit x m ≤ 1000000 := tBit_le hxb.1 hxb.2
        (first | refine LS_gt rfl ?_ ?_ | refine LS_gf rfl ?_ ?_ | refine LI_cond rfl ?_ ?_) <;> intro hc <;> have hc' := hc <;> try simp only [decide_eq_true_eq, decide_eq_false_iff_not, Bool.not_eq_true', Bool.not_eq_false', Bool.not_eq_true, Bool.not_eq_false, beq_iff_eq, bne_iff_ne, beq_eq_false_iff_ne, bne_eq_false_iff_eq, Int.not_lt, Int.not_le, ge_iff_le, gt_iff_lt, not_and, ne_eq, Decidable.not_not] at hc'
        all_goals (try (dsimp only [st, setL, AV.cells, List.set_cons_zero, List.set_cons_succ, List.drop_zero, List.drop_succ_cons, List.take_zero, List.take_succ_cons, Nat.zero_add, Nat.add_zero, Nat.reduceAdd, List.cons_append, List.nil_append, List.eraseIdx_cons_zero, List.eraseIdx_cons_succ]))
        all_goals (refine W ?_)
        · rw [and1 hb0 (by omega)] at hc'
          rw [if_pos hc'] at heq2 hI3
          refine LS_cm (.refl _) (fun h' HL wf => times_ac xs.length s2.1 u2 .ns s2.2 i b4 h h' _ HL lu2 su2 (by omega) (by omega) (by omega)) rfl rfl ?_
          try (dsimp only [st, setL, AV.cells, List.set_cons_zero, List.set_cons_succ, List.drop_zero, List.drop_succ_cons, List.take_zero, List.take_succ_cons, Nat.zero_add, Nat.add_zero, Nat.reduceAdd, List.cons_append, List.nil_append, List.eraseIdx_cons_zero, List.eraseIdx_cons_succ])
          refine W ?_
          rintro _ _ ⟨w2, rfl, lw, sw, rfl⟩
          try (dsimp only [st, setL, AV.cells, List.set_cons_zero, List.set_cons_succ, List.drop_zero, List.drop_succ_cons, List.take_zero, List.take_succ_cons, Nat.zero_add, Nat.add_zero, Nat.reduceAdd, List.cons_append, List.nil_append, List.eraseIdx_cons_zero, List.eraseIdx_cons_succ])
          refine W ?_
          refine IH2 (mm - 1) _ _ (by omega) ⟨i + 1, _, _, exJ rfl, rfl, by omega, by omega, by rw [toNat_succ hi0]; exact heq2, hI3.up (by omega), lw, sw⟩
        · rw [and1 hb0 (by omega)] at hc'
          rw [if_neg hc'] at heq2 hI3
          refine IH2 (mm - 1) _ _ (by omega) ⟨i + 1, _, _, exJ rfl, rfl, by omega, by omega, by rw [toNat_succ hi0]; exact heq2, hI3.up (by omega), lu2, su2⟩
      · rw [List.drop_eq_nil_of_le (by omega), tIn] at heq2
        rw [heq2] at heq
        refine W ?_
        refine IH m _ _ (by omega) ⟨(m : Int) - 1, s2, _, exJ rfl, rfl, by omega, by omega, heq, hI2.up (by omega), lu2, su2⟩
  · obtain rfl : m = 0 := by omega
    rw [tRun] at heq
    subst heq
    have hsl := hI.ln
    have hq0 : PSm (togQ xs) := by rw [hQ]; exact psm_r (by omega) hI.os (by omega) hI.lo hI.hi
    refine LS_lt [E.2] rfl rfl (by decide) rfl rfl rfl rfl enI1 rfl rfl fun wq lq sq => ?_
    try (dsimp only [st, setL, AV.cells, List.set_cons_zero, List.set_cons_succ, List.drop_zero, List.drop_succ_cons, List.take_zero, List.take_succ_cons, Nat.zero_add, Nat.add_zero, Nat.reduceAdd, List.cons_append, List.nil_append, List.eraseIdx_cons_zero, List.eraseIdx_cons_succ])
    refine W ?_
    refine LS_rot 1 rfl ?_
    refine LS_cm (.refl _) (fun h' HL wf => makerPlan_ac xs.length u .ns wq b4 h h' _ HL su sq) rfl rfl ?_
    try (dsimp only [st, setL, AV.cells, List.set_cons_zero, List.set_cons_succ, List.drop_zero, List.drop_succ_cons, List.take_zero, List.take_succ_cons, Nat.zero_add, Nat.add_zero, Nat.reduceAdd, List.cons_append, List.nil_append, List.eraseIdx_cons_zero, List.eraseIdx_cons_succ])
    refine W ?_
    rintro _ _ ⟨rfl, rfl⟩
    try (dsimp only [st, setL, AV.cells, List.set_cons_zero, List.set_cons_succ, List.drop_zero, List.drop_succ_cons, List.take_zero, List.take_succ_cons, Nat.zero_add, Nat.add_zero, Nat.reduceAdd, List.cons_append, List.nil_append, List.eraseIdx_cons_zero, List.eraseIdx_cons_succ])
    refine W ?_
    cases hq : planOk (togQ xs)
    · have hx : togOk xs = false := by rw [togOk, hq, Bool.and_false]
      rw [togR, hx, if_neg (by simp)]
      rw [hQ] at hq0 hq
      refine LS_c0 (fun h' HL wf => told_f ⟨xs.length, E.1, [E.2]⟩ _ h' (plr_of HL 2 1 rfl rfl) hq0 hq) rfl rfl ?_
      try (dsimp only [st, setL, AV.cells, List.set_cons_zero, List.set_cons_succ, List.drop_zero, List.drop_succ_cons, List.take_zero, List.take_succ_cons, Nat.zero_add, Nat.add_zero, Nat.reduceAdd, List.cons_append, List.nil_append, List.eraseIdx_cons_zero, List.eraseIdx_cons_succ])
      refine W ?_
      refine RET fun h' HL => ?_
      try dsimp only [oneA]
      exact TupP.none HL
    · have hx : togOk xs = true := by rw [togOk, hq, hin]; rfl
      rw [togR, hx, if_pos rfl, hQ]
      rw [hQ] at hq0 hq
      refine LS_c0 (fun h' HL wf => told_t ⟨xs.length, E.1, [E.2]⟩ _ h' (plr_of HL 2 1 rfl rfl) hq0 hq) rfl rfl ?_
      try (dsimp only [st, setL, AV.cells, List.set_cons_zero, List.set_cons_succ, List.drop_zero, List.drop_succ_cons, List.take_zero, List.take_succ_cons, Nat.zero_add, Nat.add_zero, Nat.reduceAdd, List.cons_append, List.nil_append, List.eraseIdx_cons_zero, List.eraseIdx_cons_succ])
      refine W ?_
      refine RET fun h' HL => ?_
      try dsimp only [oneA]
      exact ⟨_, ⟨u, wq, rfl, lu, su, lq, sq, rfl⟩, HL.sel [2, 1] (by decide)⟩

/-! ### Plans for several powers together: the law -/
theorem togOk_p {xs : List Int} (h : togOk xs = true) : planOk (togQ xs) = true := by
  simp only [togOk, Bool.and_eq_true] at h
  exact h.2

theorem lawFnExactTogetherPlan_ac (xs : List Int) (w : AV) (h : AH) (hx : Rd h w xs) (wx : ∀ n ∈ xs, (Lit.int .i64 n).wf = true) (mx : xs.length ≤ maxLen) : AC Try.prog 12 [w] h (fun r h' => r = .b true) := by
  have hlw := hx.len
  refine e12 _ fun wf => ?_
  unfold c12
  refine LI_start wf ?_
  refine W ?_
  (first | refine LS_gt rfl ?_ ?_ | refine LS_gf rfl ?_ ?_ | refine LI_cond rfl ?_ ?_) <;> intro hc <;> have hc' := hc <;> try simp only [decide_eq_true_eq, decide_eq_false_iff_not, Bool.not_eq_true', Bool.not_eq_false', Bool.not_eq_true, Bool.not_eq_false, beq_iff_eq, bne_iff_ne, beq_eq_false_iff_ne, bne_eq_false_iff_eq, Int.not_lt, Int.not_le, ge_iff_le, gt_iff_lt, not_and, ne_eq, Decidable.not_not] at hc'
  all_goals (try (dsimp only [st, setL, AV.cells, List.set_cons_zero, List.set_cons_succ, List.drop_zero, List.drop_succ_cons, List.take_zero, List.take_succ_cons, Nat.zero_add, Nat.add_zero, Nat.reduceAdd, List.cons_append, List.nil_append, List.eraseIdx_cons_zero, List.eraseIdx_cons_succ]))
  all_goals (refine W ?_)
  · refine RET fun h' HL => ?_
    try dsimp only [oneA]
  have hll : xs.length ≤ 1048576 := by omega
  have hrl : (togR xs).steps.length ≤ 1048576 ∧ (togR xs).outs.length ≤ 1048576 := ok_len togOk_p
  generalize hQ : togR xs = Q at *
  refine LS_co (fun h' HL wf => toIntS_own xs w h' (hx.le HL.le) hll) enI1 rfl rfl fun x1 lx1 sx1 => ?_
  try (dsimp only [st, setL, AV.cells, List.set_cons_zero, List.set_cons_succ, List.drop_zero, List.drop_succ_cons, List.take_zero, List.take_succ_cons, Nat.zero_add, Nat.add_zero, Nat.reduceAdd, List.cons_append, List.nil_append, List.eraseIdx_cons_zero, List.eraseIdx_cons_succ])
  refine W ?_
  refine LS_c1 (fun h' HL wf => specTog_ac xs x1 h' (HL.rdI 0 rfl enI1 (by decide)) hll) rfl rfl ?_
  try (dsimp only [st, setL, AV.cells, List.set_cons_zero, List.set_cons_succ, List.drop_zero, List.drop_succ_cons, List.take_zero, List.take_succ_cons, Nat.zero_add, Nat.add_zero, Nat.reduceAdd, List.cons_append, List.nil_append, List.eraseIdx_cons_zero, List.eraseIdx_cons_succ])
  refine W ?_
  rw [hQ]
  rintro _ _ ⟨ws, wo, rfl, lw1, sw1, lw2, sw2, rfl⟩
  try (dsimp only [st, setL, AV.cells, List.set_cons_zero, List.set_cons_succ, List.drop_zero, List.drop_succ_cons, List.take_zero, List.take_succ_cons, Nat.zero_add, Nat.add_zero, Nat.reduceAdd, List.cons_append, List.nil_append, List.eraseIdx_cons_zero, List.eraseIdx_cons_succ])
  refine W ?_
  refine LS_al rfl fun b3 => ?_
  try (dsimp only [st, setL, AV.cells, List.set_cons_zero, List.set_cons_succ, List.drop_zero, List.drop_succ_cons, List.take_zero, List.take_succ_cons, Nat.zero_add, Nat.add_zero, Nat.reduceAdd, List.cons_append, List.nil_append, List.eraseIdx_cons_zero, List.eraseIdx_cons_succ])
  refine W ?_
  refine LS_co (fun h' HL wf => toIntS_own xs w h' (hx.le HL.le) hll) enI1 rfl rfl fun x2 lx2 sx2 => ?_
  try (dsimp only [st, setL, AV.cells, List.set_cons_zero, List.set_cons_succ, List.drop_zero, List.drop_succ_cons, List.take_zero, List.take_succ_cons, Nat.zero_add, Nat.add_zero, Nat.reduceAdd, List.cons_append, List.nil_append, List.eraseIdx_cons_zero, List.eraseIdx_cons_succ])
  refine W ?_
  refine LS_c1 (fun h' HL wf => implTog_ac xs x2 h' (HL.rdI 0 rfl enI1 (by decide)) hll) rfl rfl ?_
  try (dsimp only [st, setL, AV.cells, List.set_cons_zero, List.set_cons_succ, List.drop_zero, List.drop_succ_cons, List.take_zero, List.take_succ_cons, Nat.zero_add, Nat.add_zero, Nat.reduceAdd, List.cons_append, List.nil_append, List.eraseIdx_cons_zero, List.eraseIdx_cons_succ])
  refine W ?_
  rw [hQ]
  rintro _ _ ⟨gs, go, rfl, lg1, sg1, lg2, sg2, rfl⟩
  try (dsimp only [st, setL, AV.cells, List.set_cons_zero, List.set_cons_succ, List.drop_zero, List.drop_succ_cons, List.take_zero, List.take_succ_cons, Nat.zero_add, Nat.add_zero, Nat.reduceAdd, List.cons_append, List.nil_append, List.eraseIdx_cons_zero, List.eraseIdx_cons_succ])
  refine W ?_
  refine LS_al rfl fun b6 => ?_
  try (dsimp only [st, setL, AV.cells, List.set_cons_zero, List.set_cons_succ, List.drop_zero, List.drop_succ_cons, List.take_zero, List.take_succ_cons, Nat.zero_add, Nat.add_zero, Nat.reduceAdd, List.cons_append, List.nil_append, List.eraseIdx_cons_zero, List.eraseIdx_cons_succ])
  refine W ?_
  refine LS_c0 (fun h' HL wf => eqPlan_same Q _ _ h' (plr_of HL 1 2 rfl rfl) (plr_of HL 5 6 rfl rfl) hrl.1 hrl.2) rfl rfl ?_
  try (dsimp only [st, setL, AV.cells, List.set_cons_zero, List.set_cons_succ, List.drop_zero, List.drop_succ_cons, List.take_zero, List.take_succ_cons, Nat.zero_add, Nat.add_zero, Nat.reduceAdd, List.cons_append, List.nil_append, List.eraseIdx_cons_zero, List.eraseIdx_cons_succ])
  refine W ?_
  try ((first | (refine LS_gtnH rfl (by simp) ?_; intro hg; try (dsimp only [st, setL, AV.cells, List.set_cons_zero, List.set_cons_succ, List.drop_zero, List.drop_succ_cons, List.take_zero, List.take_succ_cons, Nat.zero_add, Nat.add_zero, Nat.reduceAdd, List.cons_append, List.nil_append, List.eraseIdx_cons_zero, List.eraseIdx_cons_succ])) | (refine LS_gfnH rfl (by simp) ?_; intro hg; try (dsimp only [st, setL, AV.cells, List.set_cons_zero, List.set_cons_succ, List.drop_zero, List.drop_succ_cons, List.take_zero, List.take_succ_cons, Nat.zero_add, Nat.add_zero, Nat.reduceAdd, List.cons_append, List.nil_append, List.eraseIdx_cons_zero, List.eraseIdx_cons_succ])) | (refine LI_cond_fH rfl (by simp) ?_; intro hg)); refine W ?_)
  refine LS_co (fun h' HL wf => toIntS_own xs w h' (hx.le HL.le) hll) enI1 rfl rfl fun x3 lx3 sx3 => ?_
  try (dsimp only [st, setL, AV.cells, List.set_cons_zero, List.set_cons_succ, List.drop_zero, List.drop_succ_cons, List.take_zero, List.take_succ_cons, Nat.zero_add, Nat.add_zero, Nat.reduceAdd, List.cons_append, List.nil_append, List.eraseIdx_cons_zero, List.eraseIdx_cons_succ])
  refine W ?_
  refine LS_c0' (fun h' HL wf => eqIntS_same _ x2 x3 h' (HL.rdI 4 rfl enI1 (by decide)) (HL.rdI 0 rfl enI1 (by decide)) (by omega)) rfl rfl ?_
  try (dsimp only [st, setL, AV.cells, List.set_cons_zero, List.set_cons_succ, List.drop_zero, List.drop_succ_cons, List.take_zero, List.take_succ_cons, Nat.zero_add, Nat.add_zero, Nat.reduceAdd, List.cons_append, List.nil_append, List.eraseIdx_cons_zero, List.eraseIdx_cons_succ])
  refine W ?_
  try ((first | (refine LS_gtnH rfl (by simp) ?_; intro hg; try (dsimp only [st, setL, AV.cells, List.set_cons_zero, List.set_cons_succ, List.drop_zero, List.drop_succ_cons, List.take_zero, List.take_succ_cons, Nat.zero_add, Nat.add_zero, Nat.reduceAdd, List.cons_append, List.nil_append, List.eraseIdx_cons_zero, List.eraseIdx_cons_succ])) | (refine LS_gfnH rfl (by simp) ?_; intro hg; try (dsimp only [st, setL, AV.cells, List.set_cons_zero, List.set_cons_succ, List.drop_zero, List.drop_succ_cons, List.take_zero, List.take_succ_cons, Nat.zero_add, Nat.add_zero, Nat.reduceAdd, List.cons_append, List.nil_append, List.eraseIdx_cons_zero, List.eraseIdx_cons_succ])) | (refine LI_cond_fH rfl (by simp) ?_; intro hg)); refine W ?_)
  refine LS_drop 1 (LS_rot 3 rfl ?_)
  refine LS_cm (.refl _) (fun h' HL wf => markIntSL_ac xs x2 _ h h' _ HL (by omega) (by omega)) rfl rfl ?_
  try (dsimp only [st, setL, AV.cells, List.set_cons_zero, List.set_cons_succ, List.drop_zero, List.drop_succ_cons, List.take_zero, List.take_succ_cons, Nat.zero_add, Nat.add_zero, Nat.reduceAdd, List.cons_append, List.nil_append, List.eraseIdx_cons_zero, List.eraseIdx_cons_succ])
  refine W ?_
  rintro _ _ ⟨rfl, rfl⟩
  try (dsimp only [st, setL, AV.cells, List.set_cons_zero, List.set_cons_succ, List.drop_zero, List.drop_succ_cons, List.take_zero, List.take_succ_cons, Nat.zero_add, Nat.add_zero, Nat.reduceAdd, List.cons_append, List.nil_append, List.eraseIdx_cons_zero, List.eraseIdx_cons_succ])
  refine W ?_
  first | (refine LS_gyH rfl (by simp; omega) ?_; intro hg) | (refine LI_cond_tH rfl (by simp; omega) ?_; intro hg)
  refine W ?_
  refine LS_c0 (fun h' HL wf => eqPlan_same Q _ _ h' (plr_of HL 2 3 rfl rfl) (plr_of HL 5 6 rfl rfl) hrl.1 hrl.2) rfl rfl ?_
  try (dsimp only [st, setL, AV.cells, List.set_cons_zero, List.set_cons_succ, List.drop_zero, List.drop_succ_cons, List.take_zero, List.take_succ_cons, Nat.zero_add, Nat.add_zero, Nat.reduceAdd, List.cons_append, List.nil_append, List.eraseIdx_cons_zero, List.eraseIdx_cons_succ])
  refine W ?_
  try ((first | (refine LS_gtnH rfl (by simp) ?_; intro hg; try (dsimp only [st, setL, AV.cells, List.set_cons_zero, List.set_cons_succ, List.drop_zero, List.drop_succ_cons, List.take_zero, List.take_succ_cons, Nat.zero_add, Nat.add_zero, Nat.reduceAdd, List.cons_append, List.nil_append, List.eraseIdx_cons_zero, List.eraseIdx_cons_succ])) | (refine LS_gfnH rfl (by simp) ?_; intro hg; try (dsimp only [st, setL, AV.cells, List.set_cons_zero, List.set_cons_succ, List.drop_zero, List.drop_succ_cons, List.take_zero, List.take_succ_cons, Nat.zero_add, Nat.add_zero, Nat.reduceAdd, List.cons_append, List.nil_append, List.eraseIdx_cons_zero, List.eraseIdx_cons_succ])) | (refine LI_cond_fH rfl (by simp) ?_; intro hg)); refine W ?_)
  refine LS_rot 3 rfl (LS_rot 3 rfl ?_)
  refine LS_cm (.refl _) (fun h' HL wf => markPlan_ac Q gs go 1 h h' _ HL (by omega) (by omega)) rfl rfl ?_
  try (dsimp only [st, setL, AV.cells, List.set_cons_zero, List.set_cons_succ, List.drop_zero, List.drop_succ_cons, List.take_zero, List.take_succ_cons, Nat.zero_add, Nat.add_zero, Nat.reduceAdd, List.cons_append, List.nil_append, List.eraseIdx_cons_zero, List.eraseIdx_cons_succ])
  refine W ?_
  rintro _ _ ⟨rfl, rfl⟩
  try (dsimp only [st, setL, AV.cells, List.set_cons_zero, List.set_cons_succ, List.drop_zero, List.drop_succ_cons, List.take_zero, List.take_succ_cons, Nat.zero_add, Nat.add_zero, Nat.reduceAdd, List.cons_append, List.nil_append, List.eraseIdx_cons_zero, List.eraseIdx_cons_succ])
  refine W ?_
  refine LS_c0 (fun h' HL wf => heldPlan_ac Q.steps.length Q.outs.length Q.n gs go 1 h' (HL.rdI 0 rfl enStep2 (by decide)) (HL.rdI 1 rfl enI1 (by decide)) (by omega) (by omega)) rfl rfl ?_
  try (dsimp only [st, setL, AV.cells, List.set_cons_zero, List.set_cons_succ, List.drop_zero, List.drop_succ_cons, List.take_zero, List.take_succ_cons, Nat.zero_add, Nat.add_zero, Nat.reduceAdd, List.cons_append, List.nil_append, List.eraseIdx_cons_zero, List.eraseIdx_cons_succ])
  refine W ?_
  try ((first | (refine LS_gtnH rfl (by simp; omega) ?_; intro hg; try (dsimp only [st, setL, AV.cells, List.set_cons_zero, List.set_cons_succ, List.drop_zero, List.drop_succ_cons, List.take_zero, List.take_succ_cons, Nat.zero_add, Nat.add_zero, Nat.reduceAdd, List.cons_append, List.nil_append, List.eraseIdx_cons_zero, List.eraseIdx_cons_succ])) | (refine LS_gfnH rfl (by simp; omega) ?_; intro hg; try (dsimp only [st, setL, AV.cells, List.set_cons_zero, List.set_cons_succ, List.drop_zero, List.drop_succ_cons, List.take_zero, List.take_succ_cons, Nat.zero_add, Nat.add_zero, Nat.reduceAdd, List.cons_append, List.nil_append, List.eraseIdx_cons_zero, List.eraseIdx_cons_succ])) | (refine LI_cond_fH rfl (by simp; omega) ?_; intro hg)); refine W ?_)
  try ((first | (refine LS_gtnH rfl (by simp) ?_; intro hg; try (dsimp only [st, setL, AV.cells, List.set_cons_zero, List.set_cons_succ, List.drop_zero, List.drop_succ_cons, List.take_zero, List.take_succ_cons, Nat.zero_add, Nat.add_zero, Nat.reduceAdd, List.cons_append, List.nil_append, List.eraseIdx_cons_zero, List.eraseIdx_cons_succ])) | (refine LS_gfnH rfl (by simp) ?_; intro hg; try (dsimp only [st, setL, AV.cells, List.set_cons_zero, List.set_cons_succ, List.drop_zero, List.drop_succ_cons, List.take_zero, List.take_succ_cons, Nat.zero_add, Nat.add_zero, Nat.reduceAdd, List.cons_append, List.nil_append, List.eraseIdx_cons_zero, List.eraseIdx_cons_succ])) | (refine LI_cond_fH rfl (by simp) ?_; intro hg)); refine W ?_)
  refine LS_co (fun h' HL wf => toIntS_own xs w h' (hx.le HL.le) hll) enI1 rfl rfl fun x4 lx4 sx4 => ?_
  try (dsimp only [st, setL, AV.cells, List.set_cons_zero, List.set_cons_succ, List.drop_zero, List.drop_succ_cons, List.take_zero, List.take_succ_cons, Nat.zero_add, Nat.add_zero, Nat.reduceAdd, List.cons_append, List.nil_append, List.eraseIdx_cons_zero, List.eraseIdx_cons_succ])
  refine W ?_
  refine LS_c1 (fun h' HL wf => implTog_ac xs x4 h' (HL.rdI 0 rfl enI1 (by decide)) hll) rfl rfl ?_
  try (dsimp only [st, setL, AV.cells, List.set_cons_zero, List.set_cons_succ, List.drop_zero, List.drop_succ_cons, List.take_zero, List.take_succ_cons, Nat.zero_add, Nat.add_zero, Nat.reduceAdd, List.cons_append, List.nil_append, List.eraseIdx_cons_zero, List.eraseIdx_cons_succ])
  refine W ?_
  rw [hQ]
  rintro _ _ ⟨gs2, go2, rfl, lg3, sg3, lg4, sg4, rfl⟩
  try (dsimp only [st, setL, AV.cells, List.set_cons_zero, List.set_cons_succ, List.drop_zero, List.drop_succ_cons, List.take_zero, List.take_succ_cons, Nat.zero_add, Nat.add_zero, Nat.reduceAdd, List.cons_append, List.nil_append, List.eraseIdx_cons_zero, List.eraseIdx_cons_succ])
  refine W ?_
  refine LS_al rfl fun b11 => ?_
  try (dsimp only [st, setL, AV.cells, List.set_cons_zero, List.set_cons_succ, List.drop_zero, List.drop_succ_cons, List.take_zero, List.take_succ_cons, Nat.zero_add, Nat.add_zero, Nat.reduceAdd, List.cons_append, List.nil_append, List.eraseIdx_cons_zero, List.eraseIdx_cons_succ])
  refine W ?_
  refine LS_c0 (fun h' HL wf => eqPlan_same Q _ _ h' (plr_of HL 1 2 rfl rfl) (plr_of HL 9 10 rfl rfl) hrl.1 hrl.2) rfl rfl ?_
  try (dsimp only [st, setL, AV.cells, List.set_cons_zero, List.set_cons_succ, List.drop_zero, List.drop_succ_cons, List.take_zero, List.take_succ_cons, Nat.zero_add, Nat.add_zero, Nat.reduceAdd, List.cons_append, List.nil_append, List.eraseIdx_cons_zero, List.eraseIdx_cons_succ])
  refine W ?_
  try ((first | (refine LS_gtnH rfl (by simp) ?_; intro hg; try (dsimp only [st, setL, AV.cells, List.set_cons_zero, List.set_cons_succ, List.drop_zero, List.drop_succ_cons, List.take_zero, List.take_succ_cons, Nat.zero_add, Nat.add_zero, Nat.reduceAdd, List.cons_append, List.nil_append, List.eraseIdx_cons_zero, List.eraseIdx_cons_succ])) | (refine LS_gfnH rfl (by simp) ?_; intro hg; try (dsimp only [st, setL, AV.cells, List.set_cons_zero, List.set_cons_succ, List.drop_zero, List.drop_succ_cons, List.take_zero, List.take_succ_cons, Nat.zero_add, Nat.add_zero, Nat.reduceAdd, List.cons_append, List.nil_append, List.eraseIdx_cons_zero, List.eraseIdx_cons_succ])) | (refine LI_cond_fH rfl (by simp) ?_; intro hg)); refine W ?_)
  refine LS_c0 (fun h' HL wf => heldPlan_ac Q.steps.length Q.outs.length Q.n gs go 1 h' (HL.rdI 4 rfl enStep2 (by decide)) (HL.rdI 5 rfl enI1 (by decide)) (by omega) (by omega)) rfl rfl ?_
  try (dsimp only [st, setL, AV.cells, List.set_cons_zero, List.set_cons_succ, List.drop_zero, List.drop_succ_cons, List.take_zero, List.take_succ_cons, Nat.zero_add, Nat.add_zero, Nat.reduceAdd, List.cons_append, List.nil_append, List.eraseIdx_cons_zero, List.eraseIdx_cons_succ])
  refine W ?_
  try ((first | (refine LS_gtnH rfl (by simp; omega) ?_; intro hg; try (dsimp only [st, setL, AV.cells, List.set_cons_zero, List.set_cons_succ, List.drop_zero, List.drop_succ_cons, List.take_zero, List.take_succ_cons, Nat.zero_add, Nat.add_zero, Nat.reduceAdd, List.cons_append, List.nil_append, List.eraseIdx_cons_zero, List.eraseIdx_cons_succ])) | (refine LS_gfnH rfl (by simp; omega) ?_; intro hg; try (dsimp only [st, setL, AV.cells, List.set_cons_zero, List.set_cons_succ, List.drop_zero, List.drop_succ_cons, List.take_zero, List.take_succ_cons, Nat.zero_add, Nat.add_zero, Nat.reduceAdd, List.cons_append, List.nil_append, List.eraseIdx_cons_zero, List.eraseIdx_cons_succ])) | (refine LI_cond_fH rfl (by simp; omega) ?_; intro hg)); refine W ?_)
  try ((first | (refine LS_gtnH rfl (by simp) ?_; intro hg; try (dsimp only [st, setL, AV.cells, List.set_cons_zero, List.set_cons_succ, List.drop_zero, List.drop_succ_cons, List.take_zero, List.take_succ_cons, Nat.zero_add, Nat.add_zero, Nat.reduceAdd, List.cons_append, List.nil_append, List.eraseIdx_cons_zero, List.eraseIdx_cons_succ])) | (refine LS_gfnH rfl (by simp) ?_; intro hg; try (dsimp only [st, setL, AV.cells, List.set_cons_zero, List.set_cons_succ, List.drop_zero, List.drop_succ_cons, List.take_zero, List.take_succ_cons, Nat.zero_add, Nat.add_zero, Nat.reduceAdd, List.cons_append, List.nil_append, List.eraseIdx_cons_zero, List.eraseIdx_cons_succ])) | (refine LI_cond_fH rfl (by simp) ?_; intro hg)); refine W ?_)
  refine RET fun h' HL => ?_
  try dsimp only [oneA]
end Go.Proofs.Ytdcliofmdlhmaaa
