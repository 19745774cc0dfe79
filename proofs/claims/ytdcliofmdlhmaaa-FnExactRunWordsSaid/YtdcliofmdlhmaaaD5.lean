/- The logic of what is owned, part 12: a loop over a map among what is owned; a slice sorted by the library. -/
import Derived.Test.YtdcliofmdlhmaaaD4
import Derived.Sort.Row
import Derived.Sort.Grow
import Derived.Shelf.SortM.Plain
import Derived.Shelf.SortM.SortNone
namespace Go.AL
set_option linter.unusedVariables false
set_option linter.unusedSimpArgs false
open Go.RowKit
theorem LI_rng {P : Program} {h0 : AH} {L : List It} {Q : Exit → List AV → List It → Prop} {a : List AV} {x : Operand} {d1 it n1 n2 n3 n4 n5 id b1 : Nat} {y : IC} {T kT eT : TypeId} {r i : Nat} {es : List (Int × AV)}
    (I : Nat → List Nat → List AV → List It → Prop) (N : Nat) (hT : P.underlying T = some (.map kT eT)) (hx : ev a x = some (.m r)) (hm : L[i]? = some (It.mp r (mpI es))) (hN : d1 < N ∧ n1 < N ∧ n2 < N ∧ n3 < N ∧ n4 < N) (hd1 : it ≠ n1) (hd2 : it ≠ n2) (ha : a.length = N)
    (h00 : ∀ b, I b [] (st (st a (some d1) (.m r)) (some it) (.p b 0)) L)
    (hI : ∀ b seen a' L', I b seen a' L' → a'.length = N ∧ a'[it]? = some (.p b 0) ∧ ∃ i : Nat, L'[i]? = some (It.mp r (mpI es)))
    (hE : ∀ b seen a' L', I b seen a' L' → seen.Nodup → (∀ j ∈ seen, j < es.length) → (∀ j, j < es.length → j ∈ seen) → Q .normal (st (st a' (some n1) (.tup [.b false])) (some n2) (.b false)) L')
    (hR : ∀ b seen a' L' j e, I b seen a' L' → j ∉ seen → es[j]? = some e → LI P h0 L' y (fun x a'' L'' => x = .normal ∧ I b (seen ++ [j]) a'' L'') (st (st (st (st (st a' (some n1) (.tup [.b true, .i .i64 e.1, e.2])) (some n2) (.b true)) (some n3) (.tup [.i .i64 e.1, e.2])) (some n4) (.i .i64 e.1)) (some n5) (.i .i64 e.1))) :
    LI P h0 L (.seq (.reg [⟨some d1, .move x, none⟩, ⟨some it, .range T (.tmp d1), none⟩]) (.block id (.loop (rngX it n1 n2 n3 n4 n5 id b1 y)))) Q a := fun h HL =>
  AI_rng (fun seen a' h' => ∃ L', Loq h0 h' L' ∧ I h.cs.length seen a' L') hT hx (HL.it' hm).2 hN hd1 hd2 ha
    ⟨L, HL.le' (AH.ro_wf HL.wf 0 []) (AH.le_ro h 0 []), h00 _⟩
    (fun seen a' h' ⟨L', HL', hi⟩ => let ⟨g1, g2, i', g3⟩ := hI _ seen a' L' hi; ⟨g1, g2, true, (HL'.it' g3).2⟩)
    (fun seen a' h' ⟨L', HL', hi⟩ h1 h2 h3 => ⟨L', HL', hE _ seen a' L' hi h1 h2 h3⟩)
    (fun seen a' h' j e ⟨L', HL', hi⟩ h1 h2 => (hR _ seen a' L' j e hi h1 h2 h' HL').mono fun ex a2 h2 ⟨L2, HL2, hx, hi2⟩ => ⟨hx, L2, HL2, hi2⟩)
/-! ### A slice sorted -/
section
open Go.Sort (Holds putRow putCells mapBlock onCells grow)
variable {base : Nat} {w0 : World} {ι : Pl} {h : AH} {w : World}
theorem Rep.ahead (H : Rep base w0 ι h w) (n : Nat) : Rep base w0 ι h (Sort.ahead w n) :=
  H.obj ⟨rfl, rfl, rfl, Nat.le_refl _, fun _ _ => rfl⟩ (fun _ _ h _ => h) H.oth
theorem grow_get (w : World) (os : Array Obj) {k : Nat} (hk : k < w.heap.size) : (grow w os).heap[k]? = w.heap[k]? := by
  show (w.heap ++ os)[k]? = _
  rw [Array.getElem?_append_left hk]
theorem Rep.grow (H : Rep base w0 ι h w) (os : Array Obj) : Rep base w0 ι h (grow w os) := by
  refine H.obj ⟨rfl, rfl, rfl, by simp [Go.Sort.grow], fun k hk => grow_get w os (by have := H.base_le; omega)⟩ (fun k o hk _ => ?_) fun k o hk ho => ?_
  · rw [grow_get w os (Array.getElem?_eq_some_iff.1 hk).1]; exact hk
  · have h1 := H.oth k o hk ho
    rw [grow_get w os (Array.getElem?_eq_some_iff.1 h1).1]; exact h1
theorem putRow_eq {enc : Int → Value} {d : Array Int} {off c : Nat} {arr : Array Value} {T : TypeId} (hb : w.heap[c]? = some (.cells arr T (0, 0))) : putRow enc w c off d = w.setRow c (putCells enc off d arr) := by
  unfold Go.Sort.putRow Go.Sort.mapBlock World.setRow
  congr 1
  apply Array.ext_getElem?
  intro k
  simp only [Array.getElem?_modify]
  by_cases hk : c = k
  · subst hk
    simp only [if_true, hb, Option.map_some, Go.Sort.onCells]
  · simp [hk]
theorem flatMap_enI (l : List Int) : l.flatMap enI = l.map (AV.i .i64) := by
  induction l with
  | nil => rfl
  | cons x l ih => rw [List.flatMap_cons, ih]; rfl
theorem vrels_ints (ι : Pl) : ∀ l : List Int, VRels ι (l.map (AV.i .i64)) (l.map (Value.int .i64))
  | [] => .nil
  | x :: l => .cons (.i .i64 x) (vrels_ints ι l)
theorem sort_ac {P : Program} {f : FuncId} {h0 h : AH} {L : List It} {v : AV} {l : List Int} (hent : enters P f)
    (hS : ∀ (blk off cap : Nat) (zs : List Int) (w : World), Holds (Value.int .i64) w blk off zs.toArray → blk < w.heap.size → zs.length < 4611686018427387904 →
      Calls P f #[.slice (some ⟨blk, off, none⟩) zs.length cap] w fun e w' => e = .returned (.tuple #[]) ∧ ∃ n os, w' = grow (putRow (Value.int .i64) (Sort.ahead w n) blk off (zs.mergeSort fun x y => decide (x ≤ y)).toArray) os)
    (hN : ∀ (p : Option Addr) (cap : Nat) (w : World), Calls P f #[.slice p 0 cap] w fun e w' => e = .returned (.tuple #[]) ∧ w' = w)
    (HL : Loq h0 h (.sl v 1 (l.flatMap enI) :: L)) (hl : l.length < 4611686018427387904) :
    AC P f [v] h (fun r h' => ∃ M, (r = un ∧ M = .sl v 1 ((l.mergeSort fun x y => decide (x ≤ y)).flatMap enI) :: L) ∧ Loq h0 h' M) := by
  refine ⟨hent, fun base w0 ι w cargs hrep hv => ?_⟩
  obtain ⟨zs, hz⟩ : ∃ zs, zs = l.mergeSort fun x y => decide (x ≤ y) := ⟨_, rfl⟩
  have hzl : zs.length = l.length := by rw [hz]; exact List.length_mergeSort l
  by_cases hl0 : l = []
  · subst hl0
    have hlen0 : lenA v = some 0 := (HL.rdI 0 rfl enI1 (by decide)).len
    obtain ⟨cv, hca, hcv⟩ : ∃ cv, cargs = #[cv] ∧ VRel ι v cv := by
      cases cargs with
      | mk cl =>
        simp only at hv
        cases hv with
        | cons hv t => cases t; exact ⟨_, rfl, hv⟩
    obtain ⟨p, cap, hcv2⟩ : ∃ p cap, cv = .slice p 0 cap := by
      rcases (HL.rdI 0 rfl enI1 (by decide)).rd with rfl | ⟨b, o, c, rfl, _⟩
      · cases hcv; exact ⟨none, 0, rfl⟩
      · cases hcv; exact ⟨_, _, rfl⟩
    subst hca; subst hcv2
    refine (hN p cap w).mono ?_
    rintro e w' ⟨rfl, rfl⟩
    exact ⟨un, _, ι, h, rfl, .refl ι, hrep, .tup [] _ .nil, _, ⟨rfl, by simp⟩, HL⟩
  · have hpos : 0 < l.length := List.length_pos_iff.2 hl0
    have hfl : (l.flatMap enI).length = l.length := by rw [flatMap_len enI1]; omega
    rcases HL.it' (i := 0) rfl with ⟨_, e⟩ | ⟨b, o, n, c, row, rfl, hn, hB, hor, hd⟩
    · rw [e] at hfl; simp at hfl; omega
    · rw [hfl] at hn hor
      have hnn : n = l.length := by omega
      subst hnn
      obtain ⟨hb, m, hm, ho, hmk, hr, ha⟩ := hB
      obtain ⟨cv, hca, hcv⟩ : ∃ cv, cargs = #[cv] ∧ VRel ι (.sl b o l.length c) cv := by
        cases cargs with
        | mk cl =>
          simp only at hv
          cases hv with
          | cons hv t => cases t; exact ⟨_, rfl, hv⟩
      cases hcv with
      | sl _ _ _ _ pl x cap hp hc hcl hx =>
        rcases hx with hx | ⟨rfl, hx2⟩
        · omega
        subst hca
        obtain ⟨hbase, hfit, arr, T, harr, hasz⟩ := hrep.own b pl m row hp hm hr ho
        have hcell : ∀ j, j < l.length → arr[pl.o + o + j]? = some (.int .i64 l[j]!) := by
          intro j hj
          obtain ⟨z, hzj⟩ : ∃ z, l[j]? = some z := ⟨_, List.getElem?_eq_getElem hj⟩
          have hrj : row[o + j]? = some (.i .i64 z) := by
            rw [← List.getElem?_drop, hd]
            rw [flatMap_enI]; simp [hzj]
          obtain ⟨cv, e1, e2⟩ := hrep.cell b pl row hp hr (o + j) _ hrj
          cases e2
          have e3 := cell_of_row w pl.c (pl.o + (o + j)) arr T (0, 0) harr
          rw [e1] at e3
          rw [show pl.o + o + j = pl.o + (o + j) by omega, ← e3]
          simp [hzj]
        have hH : Holds (Value.int .i64) w pl.c (pl.o + o) l.toArray := by
          intro j hj
          have hj' : j < l.length := by simpa using hj
          refine ⟨?_, by simp only [World.frozen?, harr]; simp⟩
          rw [cell_of_row w pl.c (pl.o + o + j) arr T (0, 0) harr, hcell j hj']
          simp [hj']
        refine (hS pl.c (pl.o + o) cap l w hH (hrep.inb b pl hp) hl).mono ?_
        rintro e w' ⟨rfl, n, os, rfl⟩
        rw [← hz]
        have hzm : (zs.map (AV.i .i64)).length = l.length := by simp [hzl]
        have harr1 : (Sort.ahead w n).heap[pl.c]? = some (.cells arr T (0, 0)) := harr
        rw [putRow_eq harr1]
        have hrep2 := (hrep.ahead n).store (o := o) (vs := zs.map (AV.i .i64)) (cs := zs.map (Value.int .i64)) hp hm ho hr (by omega) (vrels_ints ι zs) (by simp [AV.sc]) harr1 (arr' := putCells (Value.int .i64) (pl.o + o) zs.toArray arr) (by simp [Go.Sort.putCells]) (by
          intro j
          simp only [Go.Sort.putCells, Array.getElem?_mapIdx, List.length_map, List.size_toArray]
          split
          · rename_i hc
            have hja : j < arr.size := by omega
            rw [Array.getElem?_eq_getElem hja, Option.map_some]
            have : j - (pl.o + o) < zs.length := by omega
            simp [this]
          · simp)
        refine ⟨un, _, ι, _, rfl, .refl ι, hrep2.grow os, .tup [] _ .nil, _, ⟨rfl, rfl⟩, ?_⟩
        refine HL.put (i := 0) rfl rfl ⟨hb, m, hm, ho, hmk, hr, ha⟩ hm rfl rfl fun h' hB' => .inr ⟨b, o, l.length, c, _, rfl, by rw [flatMap_enI]; simp [hzl], hB', ?_, ?_⟩
        · rw [flatMap_enI, setL_length, hzm]; exact hor
        · rw [flatMap_enI]
          refine List.ext_getElem? fun j => ?_
          rw [List.getElem?_drop, setL_get _ _ _ _ (by omega)]
          split
          · rw [show o + j - o = j by omega]
          · rename_i hc
            rw [List.getElem?_eq_none (by omega), List.getElem?_eq_none (by omega)]
end
end Go.AL
