/- The logic of what is owned, part 13: slices.AppendSeq against an iterator that reads memory between the rounds.
   appendSeqJ_in is the kit's AnyZI.appendSeq_in turned: the iterator's contract is asked for AppendSeq's own invariant alone. -/
import Derived.Test.YtdcliofmdlhmaaaD5
import Derived.Shelf.SlIterI.Collect
import Derived.RangeFuncBox
import Derived.RangeFuncLeaves
import Derived.WalkKit
import Derived.OwnWalkIn
import Derived.TacticsInMore
import Derived.LoopNIn
import Derived.LoopIn
namespace Go.AL
set_option linter.unusedVariables false
set_option linter.unusedSimpArgs false
open Go.RowKit Go.Maps Go.Sort Go.Shelf Go.Proofs
section
variable {P : Program} {ρ : Ren}
set_option maxRecDepth 100000 in
set_option maxHeartbeats 2000000 in
theorem appendSeqJ_in (L : SlLaysZI.n11 P ρ) (F : Fence) (n : Nat) (h11 : F.fn (ρ.f 11)) (hro : F.round = none) (hn : 2 ≤ n) (g : Nat) (lb : Array Value) (hFg : F.fn g) (eg : ∀ args w, (callFunc g args).run P w = .ok (.enter g args) w)
    (S : List Int → Prop) (N : Nat) (hN : N ≤ maxLen) (hNb : N * 8 ≤ 140737488355328) (w : World) (hseq : ∀ (fn : FuncId) (l Bs D : Nat) (W : World), Below w.heap.size w W →
      (∀ pre x W1, AnyZI.ApAt ρ w fn (.func (.func g) #[] lb) Bs l D pre W1 → pre.length < N → YieldAt F (n - 1 - 1) P l #[encZ x] W1 fun e W' => e = .returned (.bool true) ∧ AnyZI.ApAt ρ w fn (.func (.func g) #[] lb) Bs l D (pre ++ [x]) W' ∧ KeepsWalks W1 W') →
      AnyZI.ApAt ρ w fn (.func (.func g) #[] lb) Bs l D [] W →
      CallsIn F (n - 1) P g (#[.func (.yield l) #[] #[]] ++ lb) W fun e W' => (∃ v, e = .returned v) ∧ ∃ xs, S xs ∧ AnyZI.ApAt ρ w fn (.func (.func g) #[] lb) Bs l D xs W') :
    CallsIn F n P (ρ.f 11) #[.slice none 0 0, .func (.func g) #[] lb] w fun e w' => ∃ (v : Value) (ss : List Int), e = .returned v ∧ S ss ∧ w'.ownsRow w.heap.size (ρ.t 26) 1 v ss.length (ss.map encZ) ∧ (v = .slice none 0 0 ↔ ss = []) ∧ Below w.heap.size w w' := by
  have h1 : 1 ≤ n := by omega
  have mixed := L.mixed; have t0 := L.t0; have a0 := L.a0; have z0 := L.z0; have v0 := L.v0; have t24 := L.t24; have a24 := L.a24; have z24 := L.z24; have v24 := L.v24; have t26 := L.t26; have a26 := L.a26; have z26 := L.z26; have v26 := L.v26; have t28 := L.t28; have a28 := L.a28; have z28 := L.z28; have v28 := L.v28
  have hne : ρ.t 24 ≠ ρ.t 26 := fun e => by have h := L.t24; rw [e, L.t26] at h; cases h
  have u0 := run_underlying L.t0; have u24 := run_underlying L.t24; have u26 := run_underlying L.t26; have u28 := run_underlying L.t28
  obtain ⟨_, _, FG⟩ := L.f11
  refine callsIn_of_wp_marks FG rfl h11 ?_ hro
  simp only [SlBodyZ.n11_ntmps ρ, List.size_toArray, List.length_cons, List.length_nil, Nat.reduceAdd, Nat.reduceSub, Array.replicate_succ, Array.replicate_zero, List.push_toArray, List.append_toArray, List.nil_append, List.cons_append]
  gi_wp2
  refine wpIn_rangeFunc ?_
  intro fn hfn
  rw [hro]
  obtain ⟨W0, hW0⟩ : ∃ W0, w.alloc (.cells #[.slice none 0 0] (ρ.t 24)) = W0 := ⟨_, rfl⟩
  have hs0 : W0.heap.size = w.heap.size + 1 := by rw [← hW0]; simp
  have hv0 : W0.heap[w.heap.size]? = some (.cells #[.slice none 0 0] (ρ.t 24) (0, 0)) := by rw [← hW0]; exact World.alloc_heap_new w _
  have hb0 : Below w.heap.size w W0 := by rw [← hW0]; exact (Below.refl _ w).alloc (Nat.le_refl _) _
  rw [hW0]
  obtain ⟨W1, hW1⟩ : ∃ W1, (W0.alloc (.deferred (some []))).alloc (.loop (AnyZI.apRec ρ fn (.func (.func g) #[] lb) w.heap.size W0.heap.size .ready none)) = W1 := ⟨_, rfl⟩
  have hold : ∀ k, k < W0.heap.size → W1.heap[k]? = W0.heap[k]? := fun k hk => by
    rw [← hW1]; exact (Below.heap_alloc _ _ k (by simp; omega)).trans (Below.heap_alloc _ _ k hk)
  have hb1 : Below w.heap.size w W1 := by rw [← hW1]; exact (hb0.alloc hb0.size _).alloc (by have := hb0.size; simp; omega) _
  have hs1 : W1.heap.size = W0.heap.size + 2 := by rw [← hW1]; simp
  have hM : AnyZI.ApAt ρ w fn (.func (.func g) #[] lb) w.heap.size (W0.heap.size + 1) W0.heap.size [] W1 :=
    ⟨⟨_, (hold w.heap.size (by omega)).trans hv0, ⟨rfl, .inl ⟨rfl, rfl⟩⟩, by simp⟩,
     by rw [← hW1]; have := World.alloc_heap_new (W0.alloc (.deferred (some []))) (.loop (AnyZI.apRec ρ fn (.func (.func g) #[] lb) w.heap.size W0.heap.size .ready none)); rwa [World.size_alloc] at this,
     by rw [← hW1]; exact (Below.heap_alloc _ _ _ (by simp)).trans (World.alloc_heap_new W0 _), hb1⟩
  refine ⟨W0.heap.size + 1, [{ target := .collected W0.heap.size, args := #[] }], W1, { target := .fn (.func g) lb, args := #[.func (.yield (W0.heap.size + 1)) #[] #[]] }, W1, g,
    #[.func (.yield (W0.heap.size + 1)) #[] #[]] ++ lb, W1, ?_, ?_, ?_, ?_, fun _ => h1, ?_⟩
  · rw [← hW1]; exact run_enterLoop_outer _ _ _ _ _
  · simp [resolve, go_sem]
  · intro f' hf'; simp [Target.leads] at hf'; subst hf'; exact hFg
  · simp [invoke, go_sem, eg]
  · refine (hseq fn (W0.heap.size + 1) w.heap.size W0.heap.size W1 hb1
      (fun pre x W hJ hl => AnyZI.apYield { L with } F (n - 1 - 1) w fn hfn _ w.heap.size (W0.heap.size + 1) W0.heap.size (by omega) (by omega) (by omega) (Nat.le_refl _) (by omega) N hN hNb pre x W hJ hl) hM).mono ?_
    rintro e W2 ⟨⟨v0, rfl⟩, ss, hS, h2⟩
    obtain ⟨v, hv, hrow, hnil⟩ := h2.box
    have hend := run_endLoop (P := P) h2.L (by simp [AnyZI.apRec])
    obtain ⟨W3, hW3⟩ : ∃ W3, W2.putObj (W0.heap.size + 1) (.loop { AnyZI.apRec ρ fn (.func (.func g) #[] lb) w.heap.size W0.heap.size .ready none with state := .exhausted }) = W3 := ⟨_, rfl⟩
    rw [hW3] at hend
    have hg3 : W2.grownBy W3 (some (W0.heap.size + 1)) := by rw [← hW3]; exact grownBy_putObj_a _ _ _
    have hv3 : W3.heap[w.heap.size]? = some (.cells #[v] (ρ.t 24) (0, 0)) := by rw [← hW3]; exact (World.putObj_heap_other (by omega)).trans hv
    have hK3 : W3.heap[W0.heap.size]? = some (.deferred (some [])) := by rw [← hW3]; exact (World.putObj_heap_other (by omega)).trans h2.K
    have hrow3 := hrow.kept hg3 (ownsRow_ne_a hrow h2.L (fun cur e => by first | cases e | exact hne (Obj.cells.inj e).2.1))
    have hb3 : Below w.heap.size w W3 := h2.below.grown hg3 h2.below.size (fun k e => by cases e; omega)
    obtain ⟨hc3, hf3⟩ := cell_of_box_a hv3
    clear hW3
    refine ⟨none, W3, hend, ?_⟩
    gi_wp2
    rw [← hs0]
    refine ⟨by simp, .inl ⟨_, _, rfl, run_takeDeferred hK3, ?_⟩⟩
    exact ⟨_, results_tmp rfl _ _ _, v, ss, rfl, hS, hrow3.kept (grownBy_putObj_a _ _ _) (ownsRow_ne_a hrow3 hK3 (fun cur e => by first | cases e | exact hne (Obj.cells.inj e).2.1)), hnil, hb3.grown (grownBy_putObj_a _ _ _) hb3.size (fun k e => by cases e; omega)⟩

end

/-- One block more, the run's own. -/
theorem Rep.addOwn {base : Nat} {w0 : World} {ι : Pl} {h : AH} {w : World} (R : Rep base w0 ι h w) {g k : Nat} {l : List AV} {arr : Array Value} {T : TypeId} (hg : w.heap[g]? = some (.cells arr T (0, 0))) (hbase : base ≤ g) (hfr : ∀ (b : Nat) (pl : AL.Place), ι.bl[b]? = some pl → pl.c ≠ g)
    (hl : VRels ι l (arr.toList.take l.length)) (hle : l.length ≤ arr.size) (hsc : l.all AV.sc = true) : Rep base w0 (ι.add ⟨g, 0, arr.size, k⟩) (h.new k l) w := by
  have hmono := ι.le_add ⟨g, 0, arr.size, k⟩
  have hgl := (Array.getElem?_eq_some_iff.1 hg).1
  have gb : ∀ {b : Nat} {pl' : AL.Place}, (ι.add ⟨g, 0, arr.size, k⟩).bl[b]? = some pl' → (b < h.cs.length ∧ ι.bl[b]? = some pl') ∨ (b = h.cs.length ∧ pl' = ⟨g, 0, arr.size, k⟩) := by
    intro b pl' e
    rw [← R.lb]
    exact get_snoc e
  have gc : ∀ {b : Nat} {l' : List AV}, (h.new k l).cs[b]? = some l' → (b < h.cs.length ∧ h.cs[b]? = some l') ∨ (b = h.cs.length ∧ l' = l) := fun e => get_snoc e
  have gm : ∀ {b : Nat} {m : Meta}, (h.new k l).mt[b]? = some m → (b < h.cs.length ∧ h.mt[b]? = some m) ∨ (b = h.cs.length ∧ m = ⟨k, true, []⟩) := by
    intro b m e
    rw [← R.lm]
    exact get_snoc e
  refine ⟨by simp [Pl.add, AH.new, R.lb], by simp [AH.new, R.lm], R.lp, R.below, R.base_le, ?_, ?_, ?_, ?_, ?_, ?_, ?_, ?_, ?_, ?_, R.mexcl, R.oth⟩
  · intro b l' hb
    rcases gc hb with ⟨_, hb⟩ | ⟨_, rfl⟩
    · exact R.sc b l' hb
    · exact hsc
  · intro b pl' l' hb hl' j v hv
    rcases gc hl' with ⟨e, hl'⟩ | ⟨e, rfl⟩
    · rcases gb hb with ⟨_, hb⟩ | ⟨e', _⟩
      · obtain ⟨cv, h1, h2⟩ := R.cell b pl' l' hb hl' j v hv
        exact ⟨cv, h1, h2.mono hmono⟩
      · omega
    · rcases gb hb with ⟨e', _⟩ | ⟨_, rfl⟩
      · omega
      · obtain ⟨c, hc, hv'⟩ := hl.get hv
        have hj := (List.getElem?_eq_some_iff.1 hv).1
        rw [List.getElem?_take_of_lt hj] at hc
        refine ⟨c, ?_, hv'.mono hmono⟩
        rw [cell_of_row w g (0 + j) arr T (0, 0) hg, Nat.zero_add]
        simpa using hc
  · intro b pl' m hb hm
    rcases gb hb with ⟨e, hb⟩ | ⟨e, rfl⟩
    · rcases gm hm with ⟨_, hm⟩ | ⟨e', _⟩
      · exact R.kk b pl' m hb hm
      · omega
    · rcases gm hm with ⟨e', _⟩ | ⟨_, rfl⟩
      · omega
      · rfl
  · intro b pl' hb
    rcases gb hb with ⟨_, hb⟩ | ⟨_, rfl⟩
    · exact R.inb b pl' hb
    · exact hgl
  · intro b pl' m l' hb hm hl' ho
    rcases gb hb with ⟨e, hb⟩ | ⟨e, rfl⟩
    · rcases gm hm with ⟨_, hm⟩ | ⟨e', _⟩
      · rcases gc hl' with ⟨_, hl'⟩ | ⟨e', _⟩
        · exact R.own b pl' m l' hb hm hl' ho
        · omega
      · omega
    · rcases gc hl' with ⟨e', _⟩ | ⟨_, rfl⟩
      · omega
      · exact ⟨hbase, by simp only; omega, arr, T, hg, rfl⟩
  · intro b b' pl' pl2 m m' l' l2 hb hb' hm hm' hl' hl2 ho hc
    rcases gb hb with ⟨e, hb⟩ | ⟨e, rfl⟩
    · rcases gb hb' with ⟨e2, hb'⟩ | ⟨e2, rfl⟩
      · rcases gm hm with ⟨_, hm⟩ | ⟨e', _⟩
        · rcases gm hm' with ⟨_, hm'⟩ | ⟨e', _⟩
          · rcases gc hl' with ⟨_, hl'⟩ | ⟨e', _⟩
            · rcases gc hl2 with ⟨_, hl2⟩ | ⟨e', _⟩
              · exact R.excl b b' pl' pl2 m m' l' l2 hb hb' hm hm' hl' hl2 ho hc
              · omega
            · omega
          · omega
        · omega
      · exact absurd hc.symm (hfr b pl' hb)
    · rcases gb hb' with ⟨e2, hb'⟩ | ⟨e2, rfl⟩
      · exact absurd hc (hfr b' pl2 hb')
      · exact .inl (by omega)
  · intro b b' pl' pl2 m m' hb hb' hm hm' ho ho' hc
    rcases gb hb with ⟨e, hb⟩ | ⟨e, rfl⟩
    · rcases gb hb' with ⟨e2, hb'⟩ | ⟨e2, rfl⟩
      · rcases gm hm with ⟨_, hm⟩ | ⟨e', _⟩
        · rcases gm hm' with ⟨_, hm'⟩ | ⟨e', _⟩
          · exact R.own2 b b' pl' pl2 m m' hb hb' hm hm' ho ho' hc
          · omega
        · omega
      · exact absurd hc.symm (hfr b pl' hb)
    · rcases gb hb' with ⟨e2, hb'⟩ | ⟨e2, rfl⟩
      · exact absurd hc (hfr b' pl2 hb')
      · omega
  · intro b b' m m' hm hb hm'
    rcases gm hm with ⟨e, hm⟩ | ⟨_, rfl⟩
    · rcases gm hm' with ⟨e2, hm'⟩ | ⟨e2, rfl⟩
      · exact R.ancno b b' m m' hm hb hm'
      · have := R.anclt b m hm b' hb; omega
    · cases hb
  · intro b m hm b' hb
    rcases gm hm with ⟨e, hm⟩ | ⟨_, rfl⟩
    · have := R.anclt b m hm b' hb
      simp [AH.new]; omega
    · cases hb
  · intro r c es hc hes
    obtain ⟨h1, en, cl, h2, h3, h4⟩ := R.mcell r c es hc hes
    exact ⟨h1, en, cl, h2, h3, fun j e e' he he' => ⟨(h4 j e e' he he').1.mono hmono, (h4 j e e' he he').2.mono hmono⟩⟩
theorem AC_mk {P : Program} {f : FuncId} {args : List AV} {h : AH} {R : AV → AH → Prop} {fn : Func} (h1 : P.funcs[f]? = some fn) (h2 : (fn.name == "runtime.NumGoroutine") = false) (h3 : fn.body.isNone = false)
    (H : ∀ base w0 ι w (cargs : Array Value), Rep base w0 ι h w → VRels ι args cargs.toList → Calls P f cargs w fun e w' => ∃ v cv ι' h', e = .returned cv ∧ ι.le ι' ∧ Rep base w0 ι' h' w' ∧ VRel ι' v cv ∧ R v h') : AC P f args h R := ⟨⟨fn, h1, h2, h3⟩, H⟩
end Go.AL
