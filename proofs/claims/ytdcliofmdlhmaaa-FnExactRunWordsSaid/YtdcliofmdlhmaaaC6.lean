/- The logic of what is owned, part 6: cuts of slices that may be nil. -/
import Derived.Test.YtdcliofmdlhmaaaC5
namespace Go.AL
set_option linter.unusedVariables false
set_option linter.unusedSimpArgs false
open Go.RowKit
section
variable {P : Program} {h0 : AH} {L : List It} {Q : Exit → List AV → List It → Prop} {X : List AV → List It → Prop} {a : List AV} {l : List IOp} {d : Option Nat}
theorem OpR_sliceN {h : AH} {K : List AV → AH → Prop} {T e : TypeId} {x : Operand} {lo hi : Option Operand} {k : Nat} (hT : P.underlying T = some (.slice e)) (hs : szT P e = some k)
    (hx : ev a x = some .ns) (hlo : SB a lo 0 0) (hhi : SB a hi 0 0) (hk : K (st a d .ns) h) : OpR P (.slice T x lo hi none) d a h K :=
  OpR_pure (fun base w0 ι w ca hrep hr o ho => by
    have hq : ca.eval x = .slice none 0 0 := by
      have := ev_rel hr hx
      generalize ca.eval x = q at this
      cases this; rfl
    have hrun : (Instr.sliceBounds true 0 0 (lo.map ca.eval) (hi.map ca.eval) none).run P w = .ok (0, 0, 0) w := by
      rcases hlo with ⟨rfl, _⟩ | ⟨z, kk, n, rfl, hz, hn0, e0⟩ <;> rcases hhi with ⟨rfl, _⟩ | ⟨z', kk', n', rfl, hz', hn0', e1⟩
      · simp [Instr.sliceBounds]
      · have e := rel_i (ev_rel hr hz')
        simp [Instr.sliceBounds, e, run_sliceBound hn0' (show n'.toNat ≤ 0 by omega), e1]
      · have e := rel_i (ev_rel hr hz)
        simp [Instr.sliceBounds, e, run_sliceBound hn0 (show n.toNat ≤ 0 by omega), e0]
      · have e := rel_i (ev_rel hr hz)
        have e' := rel_i (ev_rel hr hz')
        simp [Instr.sliceBounds, e, e', run_sliceBound hn0' (show n'.toNat ≤ 0 by omega), e1, run_sliceBound hn0 (show n.toNat ≤ 0 by omega), e0]
    refine ⟨.slice none 0 0, ?_, .ns⟩
    unfold execOp
    simp only [ho, hq, Instr.sliceAt, Sem.run_bind, run_underlying hT, Result.andThen_ok, Option.map_none, Instr.slice, hrun, run_sizeOf_sz hs, Sem.run_pure, Option.map_some]
    simp) hk
/-- A cut of a slice, by what it reads; the slice may be nil. -/
theorem LO_sz {α : Type} {enc : α → List AV} {T e : TypeId} {x : Operand} {lo hi : Option Operand} {v : AV} {k q u : Nat} {ll : List α} [i1 : Tsl P T e] [i2 : Tsz P e k] (hR : ∀ h, Loq h0 h L → RdG k enc h v ll) (hke : ∀ x, (enc x).length = k) (hlo : SB a lo 0 q) (hhi : SB a hi ll.length u) (h1 : q ≤ u) (h2 : u ≤ ll.length)
    (hx : ev a x = some v) (H : ∀ w, lenA w = some (u - q) → w.sc = true → (∀ h, RdG k enc h v ll → RdG k enc h w ((ll.take u).drop q)) → X (st a d w) L) : LO P h0 L (.slice T x lo hi none) d X a := fun h HL => by
  have hR0 := hR h HL
  rcases hR0.rd with rfl | ⟨b, o, c, rfl, g1, g2⟩
  · have hl0 : ll.length = 0 := by have := hR0.len; simp [lenA] at this; omega
    have hu : u = 0 := by omega
    have hq : q = 0 := by omega
    subst hu; subst hq
    have hll : ll = [] := List.length_eq_zero_iff.1 hl0
    subst hll
    exact OpR_sliceN i1.e i2.e hx hlo hhi ⟨L, HL, H .ns rfl rfl fun h' hR' => by simpa using hR'⟩
  · exact OpR_slice i1.e i2.e hx hlo hhi h1 h2 (by
      rcases hR0.rd with e | ⟨b', o', c', e, _, g⟩
      · cases e
      · cases e; exact g) ⟨L, HL, H _ rfl rfl fun h' hR' => hR'.cut hke h1 h2⟩
theorem LS_sz {α : Type} {enc : α → List AV} {T e : TypeId} {x : Operand} {lo hi : Option Operand} {v : AV} {k q u : Nat} {ll : List α} [i1 : Tsl P T e] [i2 : Tsz P e k] (hR : ∀ h, Loq h0 h L → RdG k enc h v ll) (hke : ∀ x, (enc x).length = k) (hlo : SB a lo 0 q) (hhi : SB a hi ll.length u) (h1 : q ≤ u) (h2 : u ≤ ll.length)
    (hx : ev a x = some v) (H : ∀ w, lenA w = some (u - q) → w.sc = true → (∀ h, RdG k enc h v ll → RdG k enc h w ((ll.take u).drop q)) → LS P h0 L l Q (st a d w)) : LS P h0 L (⟨d, .slice T x lo hi none, none⟩ :: l) Q a := LS_o (LO_sz hR hke hlo hhi h1 h2 hx H)
/-! A straight piece in two: what follows is walked once, however the first piece was walked. -/
theorem wp_mono2 {P : Program} {o : Oper} {a : Act} {w : World} {K K' : Act → World → Prop} {Q Q' : Exit → Act → World → Prop} (h : ∀ a w, K a w → K' a w) (hp : ∀ c a w, Q (.panic c) a w → Q' (.panic c) a w) (ho : LetsOut Q → LetsOut Q')
    (hh : o.wp P a w K Q) : o.wp P a w K' Q' := by
  unfold Oper.wp at *
  generalize (execOp a.eval o).run P w = r at *
  cases r with
  | ok n w' =>
    cases n <;> simp only [Oper.upon] at hh ⊢ <;>
      first
        | exact h _ _ hh
        | exact Calls.mono hh (fun e w'' he => by cases e <;> first | exact h _ _ he | exact hp _ _ _ he | exact ho he)
        | exact Rows.mono hh (fun _ _ he => h _ _ he)
  | halt x w' => cases x <;> simp only [Oper.upon] at hh ⊢ <;> first | exact hp _ _ _ hh | exact hh
theorem wpList_append {P : Program} {ops : Array Oper} {Q Q' : Exit → Act → World → Prop} {ol2 : List Oper} (hn : ∀ a w, Q' .normal a w → wpList P ops Q ol2 a w) (hp : ∀ c a w, Q' (.panic c) a w → Q (.panic c) a w) (ho : LetsOut Q' → LetsOut Q) :
    ∀ (ol1 : List Oper) (a : Act) (w : World), wpList P ops Q' ol1 a w → wpList P ops Q (ol1 ++ ol2) a w
  | [], a, w, h => hn a w h
  | o :: ol1, a, w, h => by
    have ih := wpList_append hn hp ho ol1
    rw [List.cons_append]
    unfold wpList at h ⊢
    split
    · rename_i hw
      rw [if_pos hw] at h
      exact h.imp (wp_mono2 ih hp ho) fun ⟨h1, h2⟩ => ⟨h1, ho h2⟩
    · rename_i hw
      rw [if_neg hw] at h
      exact ih _ _ h
theorem LS_mid (k : Nat) (Y : List AV → List It → Prop) (H : LS P h0 L (l.take k) (fun e a L => e = .normal ∧ Y a L) a) (K : ∀ a L, Y a L → LS P h0 L (l.drop k) Q a) : LS P h0 L l Q a := fun h HL => by
  intro ops ol hl hg base w0 ι0 ι w ca hok
  have h1 := H h HL ops (ol.take k) (by rw [List.map_take, hl]) (by rw [List.all_eq_true] at hg ⊢; exact fun x hx => hg x (List.mem_of_mem_take hx)) base w0 ι0 ι w ca hok
  rw [← List.take_append_drop k ol]
  refine wpList_append (fun ca w hq => ?_) (fun c a w hq => ?_) (fun hq => ?_) _ _ _ h1
  · obtain ⟨ι', a', h', hok', L', HL', e, hY⟩ := hq
    exact K a' L' hY h' HL' ops (ol.drop k) (by rw [List.map_drop, hl]) (by rw [List.all_eq_true] at hg ⊢; exact fun x hx => hg x (List.mem_of_mem_drop hx)) base w0 ι0 ι' w ca hok'
  · obtain ⟨ι', a', h', hok', L', HL', e, hY⟩ := hq; cases e
  · obtain ⟨a, w, ι', a', h', hok', L', HL', e, hY⟩ := hq; cases e
theorem LIL_conv {c : IC} {L' : List It} (H : ∀ h, Loq h0 h L → Loq h0 h L') (K : LIL P h0 L' c Q a) : LIL P h0 L c Q a := fun h HL => K h (H h HL)
theorem LI_conv {c : IC} {L' : List It} (H : ∀ h, Loq h0 h L → Loq h0 h L') (K : LI P h0 L' c Q a) : LI P h0 L c Q a := fun h HL => K h (H h HL)
theorem LS_conv {L' : List It} (H : ∀ h, Loq h0 h L → Loq h0 h L') (K : LS P h0 L' l Q a) : LS P h0 L l Q a := fun h HL => K h (H h HL)
end
end Go.AL
