/- The abstract logic, part 9: the rules for stores and appends. -/
import Derived.Test.YtdcliofmdlhmaaaA8
namespace Go.AL
open Go.RowKit

section
variable {P : Program} {a : List AV} {h : AH} {K : List AV → AH → Prop} {d : Option Nat}

theorem rel_p {ι : Pl} {b o : Nat} {q : Value} (H : VRel ι (.p b o) q) : ∃ pl : Place, ι.bl[b]? = some pl ∧ q = .pointer (some ⟨pl.c, pl.o + o, none⟩) := by
  cases H with | p _ _ pl h => exact ⟨pl, h, rfl⟩

theorem OpR_store {T : TypeId} {x y : Operand} {b o' : Nat} {v : AV} {m : Meta} {l : List AV} (hx : ev a x = some (.p b o')) (hy : ev a y = some v) (hs : szT P T = some v.cells.length) (hsc : v.cells.all AV.sc = true)
    (hm : h.mt[b]? = some m) (ho : m.own = true) (hl : h.cs[b]? = some l) (hle : o' + v.cells.length ≤ l.length) (hk : K (st a d un) ⟨(kill h.cs m.anc).set b (setL l o' v.cells), h.mt, h.mp⟩) : OpR P (.store T x y) d a h K := by
  intro o hop hd base w0 ι0 ι w ca hok N R hN
  have hrep := hok.rep
  obtain ⟨pl, hpl, hc⟩ := rel_p (ev_rel hok.rel hx)
  have hv := (ev_rel hok.rel hy).cells
  obtain ⟨_, hfit, arr, T', harr, hsz⟩ := hrep.own b pl m l hpl hm hl ho
  have hvl := hv.length
  simp only [Array.length_toList] at hvl
  have hst := run_storeCells_at P pl.c (pl.o + o') T' (ca.eval y).cells.toList 0 arr w harr (by simp; omega) (hv.sc hsc)
  simp only [Nat.add_zero] at hst
  have hrun : (execOp ca.eval o).run P w = .ok .skip (w.setRow pl.c (arr.toList.take (pl.o + o') ++ (ca.eval y).cells.toList ++ arr.toList.drop (pl.o + o' + (ca.eval y).cells.toList.length)).toArray) := by
    unfold execOp
    simp only [hop, hc, Instr.storeAt, Instr.sureAddr, Sem.run_bind, Sem.run_pure, Result.andThen_ok, storeVar, run_sizeOf_sz hs, ne_eq, hvl, not_true_eq_false, if_false, hst]
  unfold Oper.wp
  rw [hrun, Oper.upon_skip]
  refine hN ι _ _ _ _ ⟨hok.le, hrep.store hpl hm ho hl hle hv hsc harr (by simp; omega) ?_, ?_, ?_⟩ hk
  · intro j
    simp only [List.getElem?_toArray, Array.length_toList]
    by_cases h1 : j < pl.o + o'
    · rw [if_neg (by omega), List.getElem?_append_left (by simp; omega), List.getElem?_append_left (by simp; omega), List.getElem?_take_of_lt h1]
      simp
    · by_cases h2 : j < pl.o + o' + (ca.eval y).cells.size
      · rw [if_pos ⟨by omega, h2⟩, List.getElem?_append_left (by simp; omega), List.getElem?_append_right (by simp; omega)]
        congr 1
        simp; omega
      · rw [if_neg (by omega), List.getElem?_append_right (by simp; omega), List.getElem?_drop]
        simp only [List.length_append, List.length_take, Array.length_toList]
        rw [show pl.o + o' + (ca.eval y).cells.size + (j - (min (pl.o + o') arr.size + (ca.eval y).cells.size)) = j by omega]
        simp
  · rw [put_defers]; exact hok.def_
  · rw [hd]; exact put_rel hok.rel d (un_rel ι)
/-- A store where nothing else has come of the row. -/
theorem OpR_store0 {T : TypeId} {x y : Operand} {b o' : Nat} {v : AV} {k : Nat} {l : List AV} (hx : ev a x = some (.p b o')) (hy : ev a y = some v) (hs : szT P T = some v.cells.length) (hsc : v.cells.all AV.sc = true)
    (hm : h.mt[b]? = some ⟨k, true, []⟩) (hl : h.cs[b]? = some l) (hle : o' + v.cells.length ≤ l.length) (hk : K (st a d un) ⟨h.cs.set b (setL l o' v.cells), h.mt, h.mp⟩) : OpR P (.store T x y) d a h K :=
  OpR_store hx hy hs hsc hm rfl hl hle hk

theorem run_append_room_at {w : World} {t ty e : TypeId} {size : Nat} (ht : P.underlying t = some (.slice e)) (hi : szT P e = some size)
    {c x sLen sCap : Nat} {arr : Array Value} {T : TypeId} (hg : w.heap[c]? = some (.cells arr T (0, 0)))
    (s2 : Option Addr) (m c2 : Nat) (news : List Value) (hnews : (Builtin.firstCells size m (.slice s2 m c2)).run P w = .ok news.toArray w) (h1 : ∀ u ∈ news, u.oneCell' = true)
    (hroom : sLen + m ≤ sCap) (hfit : x + sLen * size + news.length ≤ arr.size) :
    (Builtin.append_ #[t, t] ty #[.slice (some ⟨c, x, none⟩) sLen sCap, .slice s2 m c2]).run P w =
      .ok (.slice (some ⟨c, x, none⟩) (sLen + m) sCap) (w.setRow c (arr.toList.take (x + sLen * size) ++ news ++ arr.toList.drop (x + sLen * size + news.length)).toArray) := by
  have hst := run_storeCells_at P c (x + sLen * size) T news 0 arr w hg (by simpa using hfit) h1
  simp only [Nat.add_zero] at hst
  simp [Builtin.append_, run_underlying ht, run_sizeOf_sz hi, Builtin.lenOf, hroom, hnews, add_none, hst]
theorem run_append_grow_at {w : World} {t ty e : TypeId} {i : TypeInfo} {z : Value} (ht : P.underlying t = some (.slice e)) (hi : P.info? e = some i) (hz : i.zero = some z)
    (s1 : Option Addr) (sLen sCap : Nat) (olds : List Value) (holds : ∀ w' : World, w'.heap = w.heap → (Builtin.firstCells i.size sLen (.slice s1 sLen sCap)).run P w' = .ok olds.toArray w')
    (s2 : Option Addr) (n c : Nat) (news : List Value) (hnews : ∀ w' : World, w'.heap = w.heap → (Builtin.firstCells i.size n (.slice s2 n c)).run P w' = .ok news.toArray w')
    (hg : sCap < sLen + n) (h63 : ((sLen + n : Nat) : Int) ≤ 9223372036854775807) (hfit : Builtin.nextslicecap (sLen + n) sCap * i.bytes ≤ 281474976710656) :
    (Builtin.append_ #[t, t] ty #[.slice s1 sLen sCap, .slice s2 n c]).run P w =
      .ok (.slice (some ⟨w.heap.size, 0, none⟩) (sLen + n) (grownCap w (sLen + n) sCap e))
        (w.drew.alloc (.cells (olds.toArray ++ news.toArray ++ Builtin.zeroCells z.cells (grownCap w (sLen + n) sCap e - (sLen + n))) e)) := by
  have hn : ¬ (sLen + n ≤ sCap) := by omega
  have h63' : ¬ (9223372036854775807 < ((sLen : Int) + (n : Int))) := by omega
  have h48' : ¬ (281474976710656 < Builtin.nextslicecap (sLen + n) sCap * i.bytes) := by omega
  have e1 := holds w.drew rfl
  have e2 := hnews w.drew rfl
  simp [Builtin.append_, run_underlying ht, sizeOf, typeInfo, zeroValue, hi, hz, Builtin.lenOf, hn, h63', h48', Question.forced, newRow, grownCap, e1, e2]
  congr 2
  apply Array.toList_inj.1
  simp

/-- The two operands of an append: what is read. -/
theorem cells_of_row {base : Nat} {w0 : World} {ι : Pl} {w : World} (hrep : Rep base w0 ι h w) {b o len k : Nat} {c : Bool} {q : Value} {l : List AV} (hq : VRel ι (.sl b o len c) q) (hrow : h.row b o (len * k) = some l) :
    ∃ (s : Option Addr) (cap : Nat) (cl : List Value), q = .slice s len cap ∧ VRels ι l cl ∧ cl.length = len * k ∧ l.all AV.sc = true ∧ ∀ w' : World, w'.heap = w.heap → (Builtin.firstCells k len (.slice s len cap)).run P w' = .ok cl.toArray w' := by
  obtain ⟨pl, x, cap, hpl, rfl, hle, _, hxx⟩ := rel_sl hq
  obtain ⟨cl, h1, h2, h3, h4⟩ := rep_row hrep hpl hrow
  refine ⟨_, cap, cl, rfl, h1, h2, h3, fun w' hw' => run_firstCells_some w' k len x len cap cl h2 fun j v hv => ?_⟩
  have hj : j < cl.length := (List.getElem?_eq_some_iff.1 hv).1
  have hlen : len ≠ 0 := by intro e; rw [e, Nat.zero_mul] at h2; omega
  have hy : x = ⟨pl.c, pl.o + o, none⟩ := by rcases hxx with e | e; omega; exact e.1
  have := h4 j v hv
  rw [← this, hy, add_none]
  simp [World.cell?, hw']

theorem OpR_append {T e : TypeId} {x y : Operand} {b off len k b2 o2 m2 bytes : Nat} {c c2 : Bool} {z : AV} {m : Meta} {l news : List AV}
    (hT : P.underlying T = some (.slice e)) (hs : szT P e = some k) (hby : byT P e = some bytes) (hz : zeroA P e = some z) (hzl : z.cells.length = k)
    (hx : ev a x = some (.sl b off len c)) (hy : ev a y = some (.sl b2 o2 m2 c2)) (hm : h.mt[b]? = some m) (ho : m.own = true) (hmk : m.k = k) (hl : h.cs[b]? = some l) (hend : off + len * k = l.length)
    (hn : h.row b2 o2 (m2 * k) = some news) (hbd : (len + m2) * bytes ≤ 140737488355328) (hbd2 : len + m2 ≤ 4611686018427387904)
    (hk : K (st a d (.sl h.cs.length 0 (len + m2) false)) ⟨h.cs ++ [l.drop off ++ news], h.mt.set b ⟨m.k, false, m.anc⟩ ++ [⟨m.k, true, b :: m.anc⟩], h.mp⟩) :
    OpR P (.call { callee := .builtin .append, args := #[x, y], argTypes := #[T, T] }) d a h K := by
  intro o hop hd base w0 ι0 ι w ca hok N R hN
  have hrep := hok.rep
  obtain ⟨pl, x1, cap, hpl, hq1, hle, hcl, hxx⟩ := rel_sl (ev_rel hok.rel hx)
  obtain ⟨s2, cap2, cl2, hq2, r1, r2, r3, r4⟩ := cells_of_row (P := P) hrep (ev_rel hok.rel hy) hn
  have hrowl : h.row b off (len * k) = some (l.drop off) := by
    unfold AH.row; rw [hl]; simp only [Option.bind_some]; rw [if_pos (by omega)]
    congr 1
    exact List.take_of_length_le (by simp; omega)
  obtain ⟨s1, cap1, cl1, hq1', q1, q2, q3, q4⟩ := cells_of_row (P := P) hrep (ev_rel hok.rel hx) hrowl
  rw [hq1] at hq1'
  injection hq1' with e1 e2 e3
  subst e1; subst e3
  obtain ⟨i, zv, hi, hiz, habs⟩ := zeroA_out hz
  have his : i.size = k := by unfold szT at hs; rw [hi] at hs; simpa using hs
  have hib : i.bytes = bytes := by unfold byT at hby; rw [hi] at hby; simpa using hby
  have hzv : VRel ι z zv := absV_rel habs
  have hexec : ∀ v w', (Builtin.append_ #[T, T] o.type #[ca.eval x, ca.eval y]).run P w = .ok v w' → (execOp ca.eval o).run P w = .ok (.value v) w' := by
    intro v w' e
    unfold execOp
    simp [hop, resolve, invoke, builtin, e]
  have hnl := r1.length
  by_cases hroom : len + m2 ≤ cap
  · obtain ⟨_, hfit, arr, T', harr, hsz⟩ := hrep.own b pl m l hpl hm hl ho
    have hpk := hrep.kk b pl m hpl hm
    rcases Nat.eq_zero_or_pos cap with hcap0 | hcpos
    · have hm0 : m2 = 0 := by omega
      subst hm0
      have hl0 : len = 0 := by omega
      subst hl0
      have hc0 : cl2 = [] := List.eq_nil_of_length_eq_zero (by simpa using r2)
      subst hc0
      have hrun : (Builtin.append_ #[T, T] o.type #[ca.eval x, ca.eval y]).run P w = .ok (.slice (some x1) (0 + 0) cap) w := by
        have hfc := r4 w rfl
        rw [hq1, hq2]
        simp [Builtin.append_, run_underlying hT, run_sizeOf_sz hs, Builtin.lenOf, hfc, storeCells]
      unfold Oper.wp
      rw [hexec _ _ hrun]
      have hnews : news = [] := List.eq_nil_of_length_eq_zero (by simpa using hnl)
      subst hnews
      have hmono := Pl.le_add ι ⟨pl.c, pl.o + off, pl.n, m.k⟩
      have hself : w.setRow pl.c arr = w := setRow_self w pl.c arr T' (0, 0) harr
      have hr2 := hrep.appendIn (off := off) (n := 0) (vs := []) (cs := []) hpl hm ho hl (by omega) .nil rfl harr (arr' := arr) rfl (by simp; omega) (by intro j; rw [if_neg (by simp)])
      rw [hself] at hr2
      refine hN (ι.add ⟨pl.c, pl.o + off, pl.n, m.k⟩) _ _ _ _ ⟨hok.le.trans hmono, hr2, ?_, ?_⟩ hk
      · rw [put_defers]; exact hok.def_
      · rw [hd]
        exact put_rel (hok.rel.mono hmono) d (.sl _ 0 _ false ⟨pl.c, pl.o + off, pl.n, m.k⟩ x1 cap (new_pl hrep _) (by omega) (by simp) (.inl hcap0))
    obtain ⟨ead, hx2⟩ := hxx.resolve_left (by omega)
    subst ead
    obtain ⟨x1, hx1e⟩ : ∃ x1, x1 = pl.o + off := ⟨_, rfl⟩
    rw [← hx1e] at hx2 hq1
    have hxx : cap = 0 ∨ (x1 = pl.o + off ∧ x1 + cap * pl.k ≤ pl.n) := .inr ⟨hx1e, hx2⟩
    have hspace : x1 + len * k + cl2.length ≤ arr.size ∨ (cl2 = [] ∧ cap = 0) := by
      rcases hxx with e | ⟨e1, e2⟩
      · refine .inr ⟨?_, e⟩
        have : m2 = 0 := by omega
        subst this
        exact List.eq_nil_of_length_eq_zero (by simpa using r2)
      · left
        rw [hpk, hmk] at e2
        have e4 : (len + m2) * k ≤ cap * k := Nat.mul_le_mul_right k hroom
        rw [Nat.add_mul] at e4
        omega
    rcases hspace with hsp | ⟨rfl, hcap0⟩
    · have hx1 : x1 = pl.o + off ∨ cl2 = [] := by
        rcases hxx with e | ⟨e1, _⟩
        · right
          have : m2 = 0 := by omega
          subst this
          exact List.eq_nil_of_length_eq_zero (by simpa using r2)
        · exact .inl e1
      have hrun := run_append_room_at (P := P) (ty := o.type) (sCap := cap) (x := x1) hT hs harr s2 m2 cap2 cl2 (by have := r4 w rfl; simpa [his] using this) (r1.sc r3) hroom hsp
      rw [← hq1, ← hq2] at hrun
      unfold Oper.wp
      rw [hexec _ _ hrun]
      have hmono := Pl.le_add ι ⟨pl.c, pl.o + off, pl.n, m.k⟩
      have harr' : ∀ j : Nat, (arr.toList.take (x1 + len * k) ++ cl2 ++ arr.toList.drop (x1 + len * k + cl2.length)).toArray[j]? = if pl.o + l.length ≤ j ∧ j < pl.o + l.length + cl2.length then cl2[j - (pl.o + l.length)]? else arr[j]? := by
        intro j
        simp only [List.getElem?_toArray]
        rcases hx1 with hx1 | rfl
        · have ex : x1 + len * k = pl.o + l.length := by omega
          rw [ex]
          rw [ex] at hsp
          by_cases h1 : j < pl.o + l.length
          · rw [if_neg (by omega), List.getElem?_append_left (by simp; omega), List.getElem?_append_left (by simp; omega), List.getElem?_take_of_lt h1]
            simp
          · by_cases h2 : j < pl.o + l.length + cl2.length
            · rw [if_pos ⟨by omega, h2⟩, List.getElem?_append_left (by simp; omega), List.getElem?_append_right (by simp; omega)]
              congr 1
              simp; omega
            · rw [if_neg (by omega), List.getElem?_append_right (by simp; omega), List.getElem?_drop]
              simp only [List.length_append, List.length_take, Array.length_toList]
              rw [show pl.o + l.length + cl2.length + (j - (min (pl.o + l.length) arr.size + cl2.length)) = j by omega]
              simp
        · rw [if_neg (by simp)]
          simp
      have hsz' : (arr.toList.take (x1 + len * k) ++ cl2 ++ arr.toList.drop (x1 + len * k + cl2.length)).toArray.size = arr.size := by simp; omega
      have hfit2 : pl.o + l.length + news.length ≤ arr.size := by
        rcases hx1 with hx1 | rfl
        · omega
        · have hn0 : news.length = 0 := hnl
          omega
      refine hN (ι.add ⟨pl.c, pl.o + off, pl.n, m.k⟩) _ _ _ _ ⟨hok.le.trans hmono, hrep.appendIn hpl hm ho hl (n := len * k) hend r1 r3 harr hsz' hfit2 harr', ?_, ?_⟩ hk
      · rw [put_defers]; exact hok.def_
      · rw [hd]
        refine put_rel (hok.rel.mono hmono) d (.sl _ 0 _ false ⟨pl.c, pl.o + off, pl.n, m.k⟩ ⟨pl.c, x1, none⟩ cap (new_pl hrep _) hroom (by simp) ?_)
        rcases hxx with e | ⟨e1, e2⟩
        · exact .inl e
        · exact .inr ⟨by simp only; rw [e1]; rfl, by simp only; rw [hpk] at e2; rw [← e1]; exact e2⟩
    · have hm0 : m2 = 0 := by omega
      subst hm0
      have hsp : x1 + len * k + ([] : List Value).length ≤ arr.size ∨ True := .inr trivial
      have hl0 : len = 0 := by omega
      subst hl0
      have hrun : (Builtin.append_ #[T, T] o.type #[ca.eval x, ca.eval y]).run P w = .ok (.slice (some ⟨pl.c, x1, none⟩) (0 + 0) cap) w := by
        have hfc := r4 w rfl
        rw [hq1, hq2]
        simp [Builtin.append_, run_underlying hT, run_sizeOf_sz hs, Builtin.lenOf, hfc, storeCells]
      unfold Oper.wp
      rw [hexec _ _ hrun]
      have hnews : news = [] := List.eq_nil_of_length_eq_zero (by simpa using hnl)
      subst hnews
      have hmono := Pl.le_add ι ⟨pl.c, pl.o + off, pl.n, m.k⟩
      have hself : w.setRow pl.c arr = w := setRow_self w pl.c arr T' (0, 0) harr
      have hr2 := hrep.appendIn (off := off) (n := 0) (vs := []) (cs := []) hpl hm ho hl (by omega) .nil rfl harr (arr' := arr) rfl (by simp; omega) (by intro j; rw [if_neg (by simp)])
      rw [hself] at hr2
      refine hN (ι.add ⟨pl.c, pl.o + off, pl.n, m.k⟩) _ _ _ _ ⟨hok.le.trans hmono, hr2, ?_, ?_⟩ hk
      · rw [put_defers]; exact hok.def_
      · rw [hd]
        exact put_rel (hok.rel.mono hmono) d (.sl _ 0 _ false ⟨pl.c, pl.o + off, pl.n, m.k⟩ ⟨pl.c, x1, none⟩ cap (new_pl hrep _) (by omega) (by simp) (.inl hcap0))
  · have hrun := run_append_grow_at (P := P) (w := w) (ty := o.type) hT hi hiz (some x1) len cap cl1 (by rw [his]; exact q4) s2 m2 cap2 cl2 (by rw [his]; exact r4) (by omega) (by omega) (growslice_fits (by omega) (by rw [hib]; exact hbd))
    rw [← hq1, ← hq2] at hrun
    unfold Oper.wp
    rw [hexec _ _ hrun]
    have hu := (hrep.unown hm).drew
    have hge := grownCap_ge w (len + m2) cap e
    have hzcl := hzv.cells.length
    simp only [Array.length_toList] at hzcl
    have hsize : (cl1.toArray ++ cl2.toArray ++ Builtin.zeroCells zv.cells (grownCap w (len + m2) cap e - (len + m2))).size = grownCap w (len + m2) cap e * k := by
      simp only [Array.size_append, List.size_toArray, size_zeroCells, ← hzcl, hzl, q2, r2, ← Nat.add_mul]
      congr 1
      omega
    have hll : (l.drop off ++ news).length = (cl1 ++ cl2).length := by simp [q1.length, r1.length]
    have hnew := hu.alloc m.k (l.drop off ++ news) (b :: m.anc) (cl1.toArray ++ cl2.toArray ++ Builtin.zeroCells zv.cells (grownCap w (len + m2) cap e - (len + m2))) e
      (by
        rw [hll]
        simp only [Array.toList_append, List.append_assoc]
        rw [← List.append_assoc, List.take_left]
        exact q1.append r1)
      (by rw [hll]; simp)
      (by simp [q3, r3])
      (by
        intro b' hb' m' hm'
        simp only [List.mem_cons] at hb'
        rcases get_set2 hm' with ⟨rfl, rfl, _⟩ | ⟨hne, em'⟩
        · rfl
        · rcases hb' with rfl | hb'
          · exact absurd rfl hne
          · exact hrep.ancno b b' m m' hm hb' em')
      (by
        intro b' hb'
        simp only [List.mem_cons] at hb'
        rcases hb' with rfl | hb'
        · exact (List.getElem?_eq_some_iff.1 hl).1
        · exact hrep.anclt b m hm b' hb')
    have hmono := Pl.le_add ι ⟨w.drew.heap.size, 0, (cl1.toArray ++ cl2.toArray ++ Builtin.zeroCells zv.cells (grownCap w (len + m2) cap e - (len + m2))).size, m.k⟩
    refine hN _ _ _ _ _ ⟨hok.le.trans hmono, hnew, ?_, ?_⟩ hk
    · rw [put_defers]; exact hok.def_
    · rw [hd]
      refine put_rel (hok.rel.mono hmono) d (.sl _ 0 _ false _ _ _ (new_pl hrep _) hge (by simp) (.inr ⟨rfl, ?_⟩))
      simp only [hsize, hmk, Nat.zero_add]
      exact Nat.le_refl _
/-- An append that always makes new memory: of a slice that is full for sure. -/
theorem OpR_append_clip {T e : TypeId} {x y : Operand} {b off len k b2 o2 m2 bytes : Nat} {c2 : Bool} {z : AV} {olds news : List AV}
    (hT : P.underlying T = some (.slice e)) (hs : szT P e = some k) (hby : byT P e = some bytes) (hz : zeroA P e = some z) (hzl : z.cells.length = k)
    (hx : ev a x = some (.sl b off len true)) (hy : ev a y = some (.sl b2 o2 m2 c2)) (hm : 0 < m2) (hol : h.row b off (len * k) = some olds) (hn : h.row b2 o2 (m2 * k) = some news)
    (hbd : (len + m2) * bytes ≤ 140737488355328) (hbd2 : len + m2 ≤ 4611686018427387904) (hk : K (st a d (.sl h.cs.length 0 (len + m2) false)) (h.new k (olds ++ news))) :
    OpR P (.call { callee := .builtin .append, args := #[x, y], argTypes := #[T, T] }) d a h K := by
  intro o hop hd base w0 ι0 ι w ca hok N R hN
  have hrep := hok.rep
  obtain ⟨pl, x1, cap, hpl, hq1, hle, hcl, hxx⟩ := rel_sl (ev_rel hok.rel hx)
  have hcap := hcl rfl
  obtain ⟨s2, cap2, cl2, hq2, r1, r2, r3, r4⟩ := cells_of_row (P := P) hrep (ev_rel hok.rel hy) hn
  obtain ⟨s1, cap1, cl1, hq1', q1, q2, q3, q4⟩ := cells_of_row (P := P) hrep (ev_rel hok.rel hx) hol
  rw [hq1] at hq1'
  injection hq1' with e1 e2 e3
  subst e1; subst e3
  obtain ⟨i, zv, hi, hiz, habs⟩ := zeroA_out hz
  have his : i.size = k := by unfold szT at hs; rw [hi] at hs; simpa using hs
  have hib : i.bytes = bytes := by unfold byT at hby; rw [hi] at hby; simpa using hby
  have hzv : VRel ι z zv := absV_rel habs
  have hexec : ∀ v w', (Builtin.append_ #[T, T] o.type #[ca.eval x, ca.eval y]).run P w = .ok v w' → (execOp ca.eval o).run P w = .ok (.value v) w' := by
    intro v w' e
    unfold execOp
    simp [hop, resolve, invoke, builtin, e]
  have hrun := run_append_grow_at (P := P) (w := w) (ty := o.type) hT hi hiz (some x1) len cap cl1 (by rw [his]; exact q4) s2 m2 cap2 cl2 (by rw [his]; exact r4) (by omega) (by omega) (growslice_fits (by omega) (by rw [hib]; exact hbd))
  rw [← hq1, ← hq2] at hrun
  unfold Oper.wp
  rw [hexec _ _ hrun]
  have hge := grownCap_ge w (len + m2) cap e
  have hzcl := hzv.cells.length
  simp only [Array.length_toList] at hzcl
  have hsize : (cl1.toArray ++ cl2.toArray ++ Builtin.zeroCells zv.cells (grownCap w (len + m2) cap e - (len + m2))).size = grownCap w (len + m2) cap e * k := by
    simp only [Array.size_append, List.size_toArray, size_zeroCells, ← hzcl, hzl, q2, r2, ← Nat.add_mul]
    congr 1
    omega
  have hll : (olds ++ news).length = (cl1 ++ cl2).length := by simp [q1.length, r1.length]
  have hnew := hrep.drew.alloc k (olds ++ news) [] (cl1.toArray ++ cl2.toArray ++ Builtin.zeroCells zv.cells (grownCap w (len + m2) cap e - (len + m2))) e
    (by
      rw [hll]
      simp only [Array.toList_append, List.append_assoc]
      rw [← List.append_assoc, List.take_left]
      exact q1.append r1)
    (by rw [hll]; simp) (by simp [q3, r3]) (by simp) (by simp)
  have hmono := Pl.le_add ι ⟨w.drew.heap.size, 0, (cl1.toArray ++ cl2.toArray ++ Builtin.zeroCells zv.cells (grownCap w (len + m2) cap e - (len + m2))).size, k⟩
  refine hN _ _ _ _ _ ⟨hok.le.trans hmono, hnew, ?_, ?_⟩ hk
  · rw [put_defers]; exact hok.def_
  · rw [hd]
    refine put_rel (hok.rel.mono hmono) d (.sl _ 0 _ false _ _ _ (new_pl hrep _) hge (by simp) (.inr ⟨rfl, ?_⟩))
    simp only [hsize, Nat.zero_add]
    exact Nat.le_refl _
/-- An append to nil. -/
theorem OpR_append_nil {T e : TypeId} {x y : Operand} {k b2 o2 m2 bytes : Nat} {c2 : Bool} {z : AV} {news : List AV}
    (hT : P.underlying T = some (.slice e)) (hs : szT P e = some k) (hby : byT P e = some bytes) (hz : zeroA P e = some z) (hzl : z.cells.length = k)
    (hx : ev a x = some .ns) (hy : ev a y = some (.sl b2 o2 m2 c2)) (hm : 0 < m2) (hn : h.row b2 o2 (m2 * k) = some news)
    (hbd : m2 * bytes ≤ 140737488355328) (hbd2 : m2 ≤ 4611686018427387904) (hk : K (st a d (.sl h.cs.length 0 m2 false)) (h.new k news)) :
    OpR P (.call { callee := .builtin .append, args := #[x, y], argTypes := #[T, T] }) d a h K := by
  intro o hop hd base w0 ι0 ι w ca hok N R hN
  have hrep := hok.rep
  have hq1 : ca.eval x = .slice none 0 0 := by have := ev_rel hok.rel hx; generalize ca.eval x = q at this; cases this; rfl
  obtain ⟨s2, cap2, cl2, hq2, r1, r2, r3, r4⟩ := cells_of_row (P := P) hrep (ev_rel hok.rel hy) hn
  obtain ⟨i, zv, hi, hiz, habs⟩ := zeroA_out hz
  have his : i.size = k := by unfold szT at hs; rw [hi] at hs; simpa using hs
  have hib : i.bytes = bytes := by unfold byT at hby; rw [hi] at hby; simpa using hby
  have hzv : VRel ι z zv := absV_rel habs
  have hexec : ∀ v w', (Builtin.append_ #[T, T] o.type #[ca.eval x, ca.eval y]).run P w = .ok v w' → (execOp ca.eval o).run P w = .ok (.value v) w' := by
    intro v w' e
    unfold execOp
    simp [hop, resolve, invoke, builtin, e]
  have hrun := run_append_grow_at (P := P) (w := w) (ty := o.type) hT hi hiz none 0 0 [] (fun w' _ => run_firstCells_none w' _ _ _ _) s2 m2 cap2 cl2 (by rw [his]; exact r4) (by omega) (by omega) (growslice_fits (by omega) (by rw [hib, Nat.zero_add]; exact hbd))
  simp only [Nat.zero_add] at hrun
  rw [← hq1, ← hq2] at hrun
  unfold Oper.wp
  rw [hexec _ _ hrun]
  have hge := grownCap_ge w m2 0 e
  have hzcl := hzv.cells.length
  simp only [Array.length_toList] at hzcl
  have hsize : (([] : List Value).toArray ++ cl2.toArray ++ Builtin.zeroCells zv.cells (grownCap w m2 0 e - m2)).size = grownCap w m2 0 e * k := by
    simp only [Array.size_append, List.size_toArray, size_zeroCells, ← hzcl, hzl, r2, ← Nat.add_mul, List.length_nil, Nat.zero_add]
    congr 1
    omega
  have hll : news.length = cl2.length := r1.length
  have hnew := hrep.drew.alloc k news [] (([] : List Value).toArray ++ cl2.toArray ++ Builtin.zeroCells zv.cells (grownCap w m2 0 e - m2)) e
    (by
      rw [hll]
      simp only [Array.toList_append, List.nil_append]
      rw [List.take_left]
      exact r1)
    (by rw [hll]; simp) r3 (by simp) (by simp)
  have hmono := Pl.le_add ι ⟨w.drew.heap.size, 0, (([] : List Value).toArray ++ cl2.toArray ++ Builtin.zeroCells zv.cells (grownCap w m2 0 e - m2)).size, k⟩
  refine hN _ _ _ _ _ ⟨hok.le.trans hmono, hnew, ?_, ?_⟩ hk
  · rw [put_defers]; exact hok.def_
  · rw [hd]
    refine put_rel (hok.rel.mono hmono) d (.sl _ 0 _ false _ _ _ (new_pl hrep _) hge (by simp) (.inr ⟨rfl, ?_⟩))
    simp only [hsize, Nat.zero_add]
    exact Nat.le_refl _
/-- Nothing is appended. -/
theorem OpR_append_none {T e : TypeId} {x y : Operand} {k : Nat} {v u : AV} (hT : P.underlying T = some (.slice e)) (hs : szT P e = some k)
    (hx : ev a x = some v) (hv : v = .ns ∨ ∃ b o n c, v = .sl b o n c) (hy : ev a y = some u) (hu : u = .ns ∨ ∃ b o c, u = .sl b o 0 c) (hk : K (st a d v) h) :
    OpR P (.call { callee := .builtin .append, args := #[x, y], argTypes := #[T, T] }) d a h K :=
  OpR_pure (fun base w0 ι w ca hrep hr o ho => by
    have h1 := ev_rel hr hx
    have h2 := ev_rel hr hy
    obtain ⟨s1, n, cap, e1, hle⟩ : ∃ s1 n cap, ca.eval x = .slice s1 n cap ∧ n ≤ cap := by
      generalize ca.eval x = q at h1
      rcases hv with rfl | ⟨b, o', n, c, rfl⟩
      · cases h1; exact ⟨_, _, _, rfl, Nat.le_refl _⟩
      · cases h1 with | sl _ _ _ _ pl x cap h hc hcl hx => exact ⟨_, _, _, rfl, hc⟩
    obtain ⟨s2, cap2, e2⟩ : ∃ s2 cap2, ca.eval y = .slice s2 0 cap2 := by
      generalize ca.eval y = q at h2
      rcases hu with rfl | ⟨b, o', c, rfl⟩
      · cases h2; exact ⟨_, _, rfl⟩
      · cases h2; exact ⟨_, _, rfl⟩
    refine ⟨ca.eval x, ?_, h1⟩
    have hfc : (Builtin.firstCells k 0 (.slice s2 0 cap2)).run P w = .ok #[] w := by
      cases s2 with
      | none => exact run_firstCells_none w _ _ _ _
      | some b => exact run_firstCells_some w k 0 b 0 cap2 [] (by simp) (by simp)
    unfold execOp
    cases s1 <;> simp [ho, resolve, invoke, builtin, e1, e2, Builtin.append_, run_underlying hT, run_sizeOf_sz hs, Builtin.lenOf, hle, hfc, storeCells]) hk
end
end Go.AL
