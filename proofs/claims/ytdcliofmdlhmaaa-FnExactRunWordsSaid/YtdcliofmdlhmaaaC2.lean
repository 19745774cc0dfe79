/- The logic of what is owned, part 2: regions that draw their order. -/
import Derived.Test.YtdcliofmdlhmaaaC1
namespace Go.AL
set_option linter.unusedVariables false
set_option linter.unusedSimpArgs false
open Go.RowKit

/-! ### Memory that was frozen for a while -/
def keepB (n : Nat) (M : List It) (b : Nat) : Bool := decide (b < n) || M.any fun x => x.blk == some b
def AH.mrg (h h' : AH) (M : List It) : AH :=
  ⟨h'.cs.mapIdx fun b row => if keepB h.cs.length M b then row else [],
   h'.mt.mapIdx fun b m => if b < h.cs.length then (h.mt[b]?).getD m else if keepB h.cs.length M b then m else ⟨m.k, false, []⟩,
   h.mp ++ h'.mp.drop h.mp.length⟩
theorem keepB_old {n b : Nat} (M : List It) (hb : b < n) : keepB n M b = true := by simp [keepB, hb]
theorem keepB_it {n b : Nat} {M : List It} {x : It} (hx : x ∈ M) (hb : x.blk = some b) : keepB n M b = true := by
  simp only [keepB, Bool.or_eq_true, List.any_eq_true]
  exact .inr ⟨x, hx, by simp [hb]⟩
theorem keepB_new {n b : Nat} {M : List It} (h : keepB n M b = true) (hb : ¬ b < n) : ∃ x ∈ M, x.blk = some b := by
  simp only [keepB, Bool.or_eq_true, List.any_eq_true, decide_eq_true_eq] at h
  rcases h with h | ⟨x, hx, e⟩
  · exact absurd h hb
  · exact ⟨x, hx, by simpa using e⟩
theorem ItOk.blk {b : Nat} {g h : AH} {x : It} (H : ItOk g h x) (hb : x.blk = some b) : ∃ k row, Blk g.cs.length h b k row := by
  cases x with
  | mp r es => cases hb
  | sl v k cs =>
    rcases H with ⟨rfl, _⟩ | ⟨b', o, n, c, row, rfl, _, hB, _⟩
    · cases hb
    · cases hb; exact ⟨_, _, hB⟩
  | pt b' cs => obtain ⟨k, hB⟩ := H; cases hb; exact ⟨_, _, hB⟩
section
variable {base : Nat} {w0 w w' : World} {ι ι' : Pl} {h h' : AH} {M : List It}
theorem mrg_cs (b : Nat) : (h.mrg h' M).cs[b]? = (h'.cs[b]?).map fun row => if keepB h.cs.length M b then row else [] := by simp [AH.mrg]
theorem mrg_mt (b : Nat) : (h.mrg h' M).mt[b]? = (h'.mt[b]?).map fun m => if b < h.cs.length then (h.mt[b]?).getD m else if keepB h.cs.length M b then m else ⟨m.k, false, []⟩ := by simp [AH.mrg]
theorem mrg_cs_old {b : Nat} {l : List AV} (hle : h.frz.le h') (hb : b < h.cs.length) (hl : (h.mrg h' M).cs[b]? = some l) : h.cs[b]? = some l := by
  have e : h'.cs[b]? = h.cs[b]? := pre_at hle.1 hb
  rw [mrg_cs, e, keepB_old M hb] at hl
  simpa using hl
theorem mrg_cs_new {b : Nat} {l : List AV} (hl : (h.mrg h' M).cs[b]? = some l) : (keepB h.cs.length M b = true ∧ h'.cs[b]? = some l) ∨ l = [] := by
  rw [mrg_cs] at hl
  cases hk : keepB h.cs.length M b with
  | true => rw [hk] at hl; exact .inl ⟨rfl, by simpa using hl⟩
  | false =>
    rw [hk] at hl
    cases hr : h'.cs[b]? with
    | none => rw [hr] at hl; simp at hl
    | some r => rw [hr] at hl; simp at hl; exact .inr hl
theorem mrg_mt_old {b : Nat} {m : Meta} (wf : h.wf) (hb : b < h.cs.length) (hm : (h.mrg h' M).mt[b]? = some m) : h.mt[b]? = some m := by
  rw [mrg_mt] at hm
  cases hr : h'.mt[b]? with
  | none => rw [hr] at hm; simp at hm
  | some r =>
    rw [hr] at hm
    have hb' : b < h.mt.length := by rw [wf.len]; exact hb
    have e : h.mt[b]? = some h.mt[b] := List.getElem?_eq_getElem hb'
    simp only [Option.map_some, if_pos hb, e, Option.getD_some, Option.some.injEq] at hm
    rw [e, hm]
theorem mrg_mt_new {b : Nat} {m : Meta} (hb : ¬ b < h.cs.length) (hm : (h.mrg h' M).mt[b]? = some m) : (keepB h.cs.length M b = true ∧ h'.mt[b]? = some m) ∨ (m.own = false ∧ m.anc = [] ∧ ∃ m', h'.mt[b]? = some m' ∧ m.k = m'.k) := by
  rw [mrg_mt] at hm
  cases hr : h'.mt[b]? with
  | none => rw [hr] at hm; simp at hm
  | some r =>
    rw [hr] at hm
    simp only [Option.map_some, if_neg hb, Option.some.injEq] at hm
    cases hk : keepB h.cs.length M b with
    | true => rw [hk] at hm; simp at hm; exact .inl ⟨rfl, by rw [hm]⟩
    | false => rw [hk] at hm; simp at hm; subst hm; exact .inr ⟨rfl, rfl, r, rfl, rfl⟩
theorem Rep.merge (R : Rep base w0 ι h w) (R' : Rep w.heap.size w ι' h' w') (hι : ι.le ι') (G : Loq h.frz h' M) : Rep base w0 ι' (h.mrg h' M) w' ∧ Loq h (h.mrg h' M) M := by
  have hle := G.le
  have wf := R.wf
  have hB : Below w.heap.size w w' := R'.below
  have hn : h.cs.length ≤ h'.cs.length := le_len (h := h.frz) hle
  have hcl : (h.mrg h' M).cs.length = h'.cs.length := by simp [AH.mrg]
  have hml : (h.mrg h' M).mt.length = h'.mt.length := by simp [AH.mrg]
  have hmpl : h.mp.length ≤ h'.mp.length := by have := List.IsPrefix.length_le hle.2.2; simpa [AH.frz] using this
  have plold : ∀ {b : Nat} {pl : Place}, b < h.cs.length → ι'.bl[b]? = some pl → ι.bl[b]? = some pl := fun {b pl} hb hp => by rw [← pre_at hι.1 (by rw [R.lb]; exact hb)]; exact hp
  -- the blocks that are the run's own
  have ownnew : ∀ {b : Nat} {m : Meta}, ¬ b < h.cs.length → (h.mrg h' M).mt[b]? = some m → m.own = true → keepB h.cs.length M b = true ∧ h'.mt[b]? = some m := fun hb hm ho => by
    rcases mrg_mt_new hb hm with e | ⟨e, _⟩
    · exact e
    · rw [e] at ho; cases ho
  have cnew : ∀ {b : Nat} {pl : Place} {m : Meta}, ¬ b < h.cs.length → ι'.bl[b]? = some pl → (h.mrg h' M).mt[b]? = some m → m.own = true → w.heap.size ≤ pl.c := fun {b pl m} hb hp hm ho => by
    obtain ⟨_, hm'⟩ := ownnew hb hm ho
    have hbl : b < h'.cs.length := by rw [← R'.lb]; exact (List.getElem?_eq_some_iff.1 hp).1
    exact (R'.own b pl m _ hp hm' (List.getElem?_eq_getElem hbl) ho).1
  have cold : ∀ {b : Nat} {pl : Place}, b < h.cs.length → ι'.bl[b]? = some pl → pl.c < w.heap.size := fun hb hp => R.inb _ _ (plold hb hp)
  have keepown : ∀ {b : Nat}, ¬ b < h.cs.length → keepB h.cs.length M b = true → ∃ k row m, h'.mt[b]? = some m ∧ m.own = true ∧ m.k = k ∧ h'.cs[b]? = some row ∧ (∀ a ∈ m.anc, h.cs.length ≤ a ∧ a < b) := fun hb hk => by
    obtain ⟨x, hx, e⟩ := keepB_new hk hb
    obtain ⟨k, row, _, m, h1, h2, h3, h4, h5⟩ := (G.it x hx).blk e
    exact ⟨k, row, m, h1, h2, h3, h4, h5⟩
  have wfm : (h.mrg h' M).wf := by
    refine ⟨by rw [hml, hcl, R'.lm], ?_, ?_⟩
    · intro b b' m m' hm hb' hm'
      by_cases hb : b < h.cs.length
      · have h1 := mrg_mt_old wf hb hm
        have h2 := wf.lt b m h1 b' hb'
        exact wf.no b b' m m' h1 hb' (mrg_mt_old wf h2 hm')
      · rcases mrg_mt_new hb hm with ⟨hk, h1⟩ | ⟨_, e, _⟩
        · obtain ⟨k, row, mm, g1, g2, g3, g4, g5⟩ := keepown hb hk
          rw [h1] at g1; cases g1
          have hge := (g5 b' hb').1
          rcases mrg_mt_new (by omega) hm' with ⟨_, h2⟩ | ⟨e, _⟩
          · exact R'.ancno b b' m m' h1 hb' h2
          · exact e
        · rw [e] at hb'; cases hb'
    · intro b m hm b' hb'
      rw [hcl]
      by_cases hb : b < h.cs.length
      · have := wf.lt b m (mrg_mt_old wf hb hm) b' hb'; omega
      · rcases mrg_mt_new hb hm with ⟨hk, h1⟩ | ⟨_, e, _⟩
        · exact R'.anclt b m h1 b' hb'
        · rw [e] at hb'; cases hb'
  refine ⟨⟨by rw [R'.lb, hcl], by rw [hml, hcl, R'.lm], ?_, R.below.trans (hB.mono R.base_le), Nat.le_trans R.base_le hB.size, ?_, ?_, ?_, R'.inb, ?_, ?_, ?_, wfm.no, wfm.lt, ?_, R'.mexcl, fun k o hk ho => by have h1 := R.oth k o hk ho; rw [hB.block _ (Array.getElem?_eq_some_iff.1 h1).1]; exact h1⟩, ?_⟩
  · rw [R'.lp]; simp only [AH.mrg, List.length_append, List.length_drop]; omega
  · intro b l hl
    rcases mrg_cs_new hl with ⟨_, e⟩ | rfl
    · exact R'.sc b l e
    · rfl
  · intro b pl l hp hl j v hv
    rcases mrg_cs_new hl with ⟨_, e⟩ | rfl
    · exact R'.cell b pl l hp e j v hv
    · simp at hv
  · intro b pl m hp hm
    by_cases hb : b < h.cs.length
    · exact R.kk b pl m (plold hb hp) (mrg_mt_old wf hb hm)
    · rcases mrg_mt_new hb hm with ⟨_, e⟩ | ⟨_, _, m', e, ek⟩
      · exact R'.kk b pl m hp e
      · rw [ek]; exact R'.kk b pl m' hp e
  · intro b pl m l hp hm hl ho
    by_cases hb : b < h.cs.length
    · obtain ⟨h1, h2, arr, T, h3, h4⟩ := R.own b pl m l (plold hb hp) (mrg_mt_old wf hb hm) (mrg_cs_old hle hb hl) ho
      refine ⟨h1, h2, arr, T, ?_, h4⟩
      rw [hB.block _ (cold hb hp)]
      exact h3
    · obtain ⟨hk, hm'⟩ := ownnew hb hm ho
      rcases mrg_cs_new hl with ⟨_, e⟩ | rfl
      · obtain ⟨h1, h2⟩ := R'.own b pl m l hp hm' e ho
        exact ⟨by have := R.base_le; omega, h2⟩
      · obtain ⟨_, row, mm, _, _, _, g4, _⟩ := keepown hb hk
        obtain ⟨h1, h2, h3⟩ := R'.own b pl m row hp hm' g4 ho
        exact ⟨by have := R.base_le; omega, by simp only [List.length_nil]; omega, h3⟩
  · intro b b' pl pl' m m' l l' hp hp' hm hm' hl hl' ho hc
    by_cases hb : b < h.cs.length
    · have hcb := cold hb hp
      by_cases hb' : b' < h.cs.length
      · exact R.excl b b' pl pl' m m' l l' (plold hb hp) (plold hb' hp') (mrg_mt_old wf hb hm) (mrg_mt_old wf hb' hm') (mrg_cs_old hle hb hl) (mrg_cs_old hle hb' hl') ho hc
      · rcases mrg_cs_new hl' with ⟨hk, e⟩ | rfl
        · obtain ⟨_, _, mm, g1, g2, _, _, _⟩ := keepown hb' hk
          rcases mrg_mt_new hb' hm' with ⟨_, e2⟩ | ⟨e2, _, _⟩
          · rw [g1] at e2; cases e2
            have := cnew hb' hp' hm' g2
            omega
          · exfalso
            rw [mrg_mt, g1] at hm'
            simp only [Option.map_some, if_neg hb', hk, if_true, Option.some.injEq] at hm'
            rw [← hm', g2] at e2; cases e2
        · exact .inr (.inl rfl)
    · have hcb := cnew hb hp hm ho
      by_cases hb' : b' < h.cs.length
      · have := cold hb' hp'; omega
      · obtain ⟨hk, e1⟩ := ownnew hb hm ho
        obtain ⟨_, row, mm, g1, _, _, g4, _⟩ := keepown hb hk
        rcases mrg_cs_new hl' with ⟨hk', e'⟩ | rfl
        · obtain ⟨_, _, mm', g1', g2', _, _, _⟩ := keepown hb' hk'
          exact .inl (R'.own2 b b' pl pl' m mm' hp hp' e1 g1' ho g2' hc)
        · exact .inr (.inl rfl)
  · intro b b' pl pl' m m' hp hp' hm hm' ho ho' hc
    by_cases hb : b < h.cs.length
    · have hcb := cold hb hp
      by_cases hb' : b' < h.cs.length
      · exact R.own2 b b' pl pl' m m' (plold hb hp) (plold hb' hp') (mrg_mt_old wf hb hm) (mrg_mt_old wf hb' hm') ho ho' hc
      · have := cnew hb' hp' hm' ho'; omega
    · have hcb := cnew hb hp hm ho
      by_cases hb' : b' < h.cs.length
      · have := cold hb' hp'; omega
      · exact R'.own2 b b' pl pl' m m' hp hp' (ownnew hb hm ho).2 (ownnew hb' hm' ho').2 ho ho' hc
  · intro r c es hc hes
    by_cases hr : r < h.mp.length
    · have e : h.mp[r]? = some es := by simpa [AH.mrg, List.getElem?_append_left hr] using hes
      have hc0 : ι.mp[r]? = some c := by rw [← pre_at hι.2 (by rw [R.lp]; exact hr)]; exact hc
      obtain ⟨h1, en, cl, h2, h3, h4⟩ := R.mcell r c es hc0 e
      have hlt : c < w.heap.size := (Array.getElem?_eq_some_iff.1 h2).1
      exact ⟨h1, en, cl, by rw [hB.block _ hlt]; exact h2, h3, fun j x x' hx hx' => ⟨(h4 j x x' hx hx').1.mono hι, (h4 j x x' hx hx').2.mono hι⟩⟩
    · have e : h'.mp[r]? = some es := by
        have := hes
        simp only [AH.mrg] at this
        rw [List.getElem?_append_right (by omega), List.getElem?_drop] at this
        rw [show h.mp.length + (r - h.mp.length) = r by omega] at this
        exact this
      obtain ⟨h1, h2⟩ := R'.mcell r c es hc e
      exact ⟨fun ht => by have := h1 ht; have := R.base_le; omega, h2⟩
  · refine ⟨wf, ⟨?_, ?_, List.prefix_append _ _⟩, wfm, ?_, G.ap⟩
    · refine pre_of fun i hi => ?_
      rw [mrg_cs, keepB_old M hi, pre_at hle.1 hi]
      show (h.cs[i]?).map _ = _
      simp
    · refine pre_of fun i hi => ?_
      have hi' : i < h.cs.length := by rw [← wf.len]; exact hi
      have hi2 : i < h'.mt.length := by rw [R'.lm]; omega
      have e : h'.mt[i]? = some h'.mt[i] := List.getElem?_eq_getElem hi2
      rw [mrg_mt, e, List.getElem?_eq_getElem hi]
      simp [if_pos hi']
    · intro x hx
      refine (G.it x hx).map (fun b k row e B => ?_) (fun r es _ g1 g2 => ?_)
      rotate_left
      · have g1' : h.mp.length ≤ r := by simpa [AH.frz] using g1
        refine ⟨g1', ?_⟩
        simp only [AH.mrg]
        rw [List.getElem?_append_right g1', List.getElem?_drop, show h.mp.length + (r - h.mp.length) = r by omega]
        exact g2
      obtain ⟨g1, m, g2, g3, g4, g5, g6⟩ := B
      have g1' : ¬ b < h.cs.length := by simp only [AH.frz] at g1; omega
      have hk := keepB_it (n := h.cs.length) hx e
      refine ⟨by omega, m, ?_, g3, g4, ?_, fun a ha => ⟨(g6 a ha).1, (g6 a ha).2⟩⟩
      · rw [mrg_mt, g2]; simp [if_neg g1', hk]
      · rw [mrg_cs, g5]; simp [hk]
end
/-! ### Orders: what must hold of a world may hang on what has come up -/
section
variable {P : Program} {ops : Array Oper} {Qc : Exit → Act → World → Prop} {md : Region.Mode} {S : Array Bool → World → Prop}
/-- Whatever an operation waits for has come up before it. -/
def Clo (md : Region.Mode) (ops : Array Oper) (listed : Array Bool) : Prop := ∀ (j : Nat) (o : Oper), ops[j]? = some o → listed.getD j true = true → ∀ e ∈ o.after, Region.binds md e = true → listed.getD e.on true = true
def YieldsZ (P : Program) (ops : Array Oper) (md : Region.Mode) (S : Array Bool → World → Prop) (i : Nat) (o : Oper) (v : Value) (a : Act) : Prop :=
  (Region.wanted o (yielded ops a.tmps) = true ∧ ∀ (listed : Array Bool) w, Clo md ops listed → listed.getD i true = false → S listed w → (execOp a.eval o).run P w = .ok (.value v) w) ∨ (Region.wanted o (yielded ops a.tmps) = false ∧ v = undef)
def wpAnyZ (P : Program) (md : Region.Mode) (ops : Array Oper) (Qc : Exit → Act → World → Prop) (S : Array Bool → World → Prop) : Nat → Array Bool → Act → World → Prop
  | 0, listed, a, w => Region.ready md ops listed = [] ∧ Qc .normal a w
  | fuel + 1, listed, a, w =>
    (Region.ready md ops listed = [] → Qc .normal a w) ∧
    ∀ i ∈ Region.ready md ops listed, wpOp P ops Qc i (fun a' w' => S (listed.setIfInBounds i true) w' ∧ wpAnyZ P md ops Qc S fuel (listed.setIfInBounds i true) a' w') a w
theorem wpAny_of_z : ∀ (fuel : Nat) (listed : Array Bool) (a : Act) (w : World), wpAnyZ P md ops Qc S fuel listed a w → wpAny P md ops Qc fuel listed a w
  | 0, _, _, _, h => h
  | fuel + 1, _, _, _, h => ⟨h.1, fun i hi => wpOp_mono (fun a' w' h' => wpAny_of_z fuel _ a' w' h'.2) (h.2 i hi)⟩
theorem wpOp_putZ {i j : Nat} {oi oj : Oper} {v : Value} (hj : ops[j]? = some oj) (hap : oi.apart ops oj = true) (hsi : ∀ cs b, oi.op ≠ .select cs b) (hsj : ∀ cs b, oj.op ≠ .select cs b)
    (hQ : ∀ c a w, Qc (.panic c) (a.put oi.dst v) w → Qc (.panic c) a w) {K : Act → World → Prop} {a : Act} {w : World}
    (hy : YieldsZ P ops md S i oi v a) (h : wpOp P ops Qc j K (a.put oi.dst v) w) : wpOp P ops Qc j (fun a' w' => YieldsZ P ops md S i oi v a' ∧ K (a'.put oi.dst v) w') a w := by
  have of_same : ∀ {a a' : Act}, YieldsZ P ops md S i oi v a → execOp a'.eval oi = execOp a.eval oi → Region.wanted oi (yielded ops a'.tmps) = Region.wanted oi (yielded ops a.tmps) → YieldsZ P ops md S i oi v a' := by
    intro a a' hy he hw
    unfold YieldsZ at *
    rw [he, hw]
    exact hy
  obtain ⟨h1, h2, h3⟩ := Oper.apart_spec hap
  have keep : ∀ (a : Act), YieldsZ P ops md S i oi v a → ∀ u, YieldsZ P ops md S i oi v (a.put oj.dst u) := fun a hy u => of_same hy (execOp_put oi hsi a oj.dst u h3) (wanted_put oi a oj.dst u h3)
  have keepD : ∀ d, YieldsZ P ops md S i oi v { a with defers := d :: a.defers } := fun d => of_same hy rfl rfl
  unfold wpOp at *
  simp only [hj] at *
  rw [wanted_put oj a oi.dst v h1] at h
  split
  · rename_i hw
    simp only [hw, if_true] at h
    rcases h with h | ⟨hasks, hlets⟩
    case inr => exact .inr ⟨by unfold Oper.asks at *; rw [execOp_put oj hsj a oi.dst v h1] at hasks; exact hasks, hlets⟩
    refine .inl ?_
    unfold Oper.wp at *
    rw [execOp_put oj hsj a oi.dst v h1] at h
    generalize (execOp a.eval oj).run P w = r at *
    cases r with
    | ok n w' =>
      cases n <;> simp only [Oper.upon] at h ⊢
      case value u => exact ⟨keep a hy u, by rw [← Act.put_comm a v u h2]; exact h⟩
      case skip => exact ⟨keep a hy _, by rw [← Act.put_comm a v undef h2]; exact h⟩
      case defer d =>
        refine ⟨keep _ (keepD d) _, ?_⟩
        rw [← Act.put_comm _ v undef h2, ← Act.put_defers]
        exact h
      case enter f args =>
        refine Calls.mono h fun e w'' he => ?_
        cases e with
        | returned u => exact ⟨keep a hy u, by rw [← Act.put_comm a v u h2]; exact he⟩
        | panicked c => exact hQ _ _ _ he
        | outgrown => exact he
      case row row args => exact Rows.mono h fun u w'' he => ⟨keep a hy u, by rw [← Act.put_comm a v u h2]; exact he⟩
    | halt x w' =>
      cases x <;> simp only [Oper.upon] at h ⊢
      case panic u => exact hQ _ _ _ h
  · rename_i hw
    simp only [hw] at h
    exact ⟨keep a hy _, by rw [← Act.put_comm a v undef h2]; exact h⟩
theorem Clo.ready {listed : Array Bool} (H : Clo md ops listed) {i : Nat} (hi : i ∈ Region.ready md ops listed) : Clo md ops (listed.setIfInBounds i true) := by
  obtain ⟨hun, oi, hoi, hall⟩ := mem_ready.1 hi
  have mono : ∀ k, listed.getD k true = true → (listed.setIfInBounds i true).getD k true = true := fun k hk => by
    by_cases e : i = k
    · subst e
      by_cases hs : i < listed.size
      · simp [hs]
      · simp [Array.setIfInBounds, hs]
    · rw [getD_set_ne true e]; exact hk
  intro j o hj hl e he hb
  by_cases hij : i = j
  · subst hij
    rw [hoi] at hj; cases hj
    refine mono _ ?_
    have h1 := hall e he hb
    simp only [Array.getD_eq_getD_getElem?] at h1 ⊢
    cases h2 : listed[e.on]? with
    | none => rfl
    | some b => rw [h2] at h1; simpa using h1
  · rw [getD_set_ne true hij] at hl
    exact mono _ (H j o hj hl e he hb)
theorem wpAnyZ_first {i : Nat} {oi : Oper} {v : Value} (hi : ops[i]? = some oi) (hsel : ∀ (j : Nat) (o : Oper) cs b, ops[j]? = some o → o.op ≠ .select cs b)
    (hQ : ∀ c a w, Qc (.panic c) (a.put oi.dst v) w → Qc (.panic c) a w) :
    ∀ (fuel : Nat) (listed : Array Bool) (a : Act) (w : World), Clo md ops listed →
      (∀ j oj, ops[j]? = some oj → j ≠ i → listed.getD j true = false → (∀ e ∈ oj.after, Region.binds md e = true → e.on ≠ i) → oi.apart ops oj = true) →
      i ∈ Region.ready md ops listed → YieldsZ P ops md S i oi v a → S listed w → (∀ listed' w', S (listed'.setIfInBounds i true) w' ↔ S listed' w') →
      wpAnyZ P md ops Qc S fuel (listed.setIfInBounds i true) (a.put oi.dst v) w → wpAnyZ P md ops Qc S (fuel + 1) listed a w := by
  have self : ∀ (listed : Array Bool) (a : Act) (w : World) (K : Act → World → Prop), Clo md ops listed → listed.getD i true = false → YieldsZ P ops md S i oi v a → S listed w → K (a.put oi.dst v) w → wpOp P ops Qc i K a w := by
    intro listed a w K hc hun hy hS h
    unfold Go.wpOp
    simp only [hi]
    rcases hy with ⟨hw, hv⟩ | ⟨hw, rfl⟩
    · simp only [hw, if_true, Oper.wp, hv listed w hc hun hS, Oper.upon]; exact .inl h
    · simp only [hw, Bool.false_eq_true, if_false]; exact h
  have unl : ∀ {listed : Array Bool}, i ∈ Region.ready md ops listed → listed.getD i true = false := fun hr => by
    have h1 := (mem_ready.1 hr).1
    first | exact h1 | simpa using h1
  intro fuel
  induction fuel with
  | zero =>
    intro listed a w hc _ hr hy hS hSi H
    refine ⟨fun h => (by rw [h] at hr; cases hr), fun j hj => ?_⟩
    by_cases hji : j = i
    · subst hji; exact self listed a w _ hc (unl hr) hy hS ⟨(hSi _ _).2 hS, H⟩
    · have := ready_mono hj hji
      rw [H.1] at this
      cases this
  | succ fuel ih =>
    intro listed a w hc hfree hr hy hS hSi H
    refine ⟨fun h => (by rw [h] at hr; cases hr), fun j hj => ?_⟩
    by_cases hji : j = i
    · subst hji; exact self listed a w _ hc (unl hr) hy hS ⟨(hSi _ _).2 hS, H⟩
    · have h1 := H.2 j (ready_mono hj hji)
      obtain ⟨hjun, oj, hoj, hall⟩ := mem_ready.1 hj
      have hnot : ∀ e ∈ oj.after, Region.binds md e = true → e.on ≠ i := fun e he hb heq => by
        have h1 := hall e he hb
        have h0 := (mem_ready.1 hr).1
        rw [heq] at h1
        rcases Nat.lt_or_ge i listed.size with h' | h'
        · simp [h'] at h0 h1; rw [h0] at h1; cases h1
        · simp [Array.getElem?_eq_none h'] at h1
      have h2 := wpOp_putZ hoj (hfree j oj hoj hji hjun hnot) (fun cs b => hsel i oi cs b hi) (fun cs b => hsel j oj cs b hoj) hQ hy h1
      have hfree' : ∀ k ok, ops[k]? = some ok → k ≠ i → (listed.setIfInBounds j true).getD k true = false →
          (∀ e ∈ ok.after, Region.binds md e = true → e.on ≠ i) → oi.apart ops ok = true := fun k ok hk hki hun hno => by
        refine hfree k ok hk hki ?_ hno
        by_cases hjk : j = k
        · subst hjk; exact hjun
        · rw [getD_set_ne true hjk] at hun; exact hun
      refine wpOp_mono (fun a' w' h3 => ?_) h2
      obtain ⟨hy', hS', hz⟩ := h3
      rw [Array.setIfInBounds_comm _ _ (Ne.symm hji)] at hS' hz
      have hS2 := (hSi _ _).1 hS'
      exact ⟨hS2, ih (listed.setIfInBounds j true) a' w' (hc.ready hj) hfree' (ready_mono hr (Ne.symm hji)) hy' hS2 hSi hz⟩
end
end Go.AL
