/- The abstract logic, part 2: rules for code. -/
import Derived.Test.YtdcliofmdlhmaaaA1
namespace Go.AL
open Go.RowKit

section
variable {P : Program} {Q : Exit → List AV → AH → Prop} {a : List AV} {h : AH}

theorem decR_cases (id : Nat) (ops : Array Oper) (d : Bool) : (d = false ∧ ops.toList.all (okg ops) = true ∧ decR id ops d = .reg (ops.toList.map (iop ops))) ∨ decR id ops d = .raw (.region id ops d) := by
  unfold decR
  by_cases h : d = false ∧ ops.toList.all (okg ops) = true
  · rw [if_pos h]; exact .inl ⟨h.1, h.2, rfl⟩
  · rw [if_neg h]; exact .inr rfl
theorem dec_skip {c : Code} (h : dec c = .skip) : c = .skip := by
  cases c with
  | skip => rfl
  | region id ops d => rcases decR_cases id ops d with ⟨_, _, e⟩ | e <;> simp only [dec, e] at h <;> cases h
  | _ => simp only [dec] at h; cases h
theorem dec_ret {c : Code} (h : dec c = .ret) : c = .ret := by
  cases c with
  | ret => rfl
  | region id ops d => rcases decR_cases id ops d with ⟨_, _, e⟩ | e <;> simp only [dec, e] at h <;> cases h
  | _ => simp only [dec] at h; cases h
theorem dec_exit {c : Code} {id : Nat} (h : dec c = .exit id) : c = .exit id := by
  cases c with
  | exit id' => simp only [dec] at h; cases h; rfl
  | region id ops d => rcases decR_cases id ops d with ⟨_, _, e⟩ | e <;> simp only [dec, e] at h <;> cases h
  | _ => simp only [dec] at h; cases h
theorem dec_seq {c : Code} {x y : IC} (h : dec c = .seq x y) : ∃ cx cy, c = .seq cx cy ∧ dec cx = x ∧ dec cy = y := by
  cases c with
  | seq cx cy => simp only [dec] at h; cases h; exact ⟨cx, cy, rfl, rfl, rfl⟩
  | region id ops d => rcases decR_cases id ops d with ⟨_, _, e⟩ | e <;> simp only [dec, e] at h <;> cases h
  | _ => simp only [dec] at h; cases h
theorem dec_cond {c : Code} {o : Operand} {x y : IC} (h : dec c = .cond o x y) : ∃ cx cy, c = .cond o cx cy ∧ dec cx = x ∧ dec cy = y := by
  cases c with
  | cond o cx cy => simp only [dec] at h; cases h; exact ⟨cx, cy, rfl, rfl, rfl⟩
  | region id ops d => rcases decR_cases id ops d with ⟨_, _, e⟩ | e <;> simp only [dec, e] at h <;> cases h
  | _ => simp only [dec] at h; cases h
theorem dec_block {c : Code} {id : Nat} {x : IC} (h : dec c = .block id x) : ∃ cx, c = .block id cx ∧ dec cx = x := by
  cases c with
  | block id cx => simp only [dec] at h; cases h; exact ⟨cx, rfl, rfl⟩
  | region id ops d => rcases decR_cases id ops d with ⟨_, _, e⟩ | e <;> simp only [dec, e] at h <;> cases h
  | _ => simp only [dec] at h; cases h
theorem dec_loop {c : Code} {x : IC} (h : dec c = .loop x) : ∃ cx, c = .loop cx ∧ dec cx = x := by
  cases c with
  | loop cx => simp only [dec] at h; cases h; exact ⟨cx, rfl, rfl⟩
  | region id ops d => rcases decR_cases id ops d with ⟨_, _, e⟩ | e <;> simp only [dec, e] at h <;> cases h
  | _ => simp only [dec] at h; cases h
theorem dec_reg {c : Code} {l : List IOp} (h : dec c = .reg l) : ∃ id ops, c = .region id ops false ∧ ops.toList.all (okg ops) = true ∧ ops.toList.map (iop ops) = l := by
  cases c with
  | region id ops d =>
    rcases decR_cases id ops d with ⟨h1, h2, e⟩ | e
    · subst h1; simp only [dec, e] at h; cases h; exact ⟨id, ops, rfl, h2, rfl⟩
    · simp only [dec, e] at h; cases h
  | _ => simp only [dec] at h; cases h
theorem dec_raw {c x : Code} (h : dec c = .raw x) : c = x := by
  cases c with
  | region id ops d =>
    rcases decR_cases id ops d with ⟨h1, h2, e⟩ | e
    · simp only [dec, e] at h; cases h
    · simp only [dec, e] at h; injection h
  | _ => simp only [dec] at h; first | (injection h; done) | cases h

theorem AI_skip (H : Q .normal a h) : AI P .skip Q a h := by
  intro code hd base w0 ι0 ι w ca hok
  obtain rfl := dec_skip hd
  exact wp_skip ⟨ι, a, h, hok, H⟩
theorem AI_exit {id : Nat} (H : Q (.exit id) a h) : AI P (.exit id) Q a h := by
  intro code hd base w0 ι0 ι w ca hok
  obtain rfl := dec_exit hd
  exact wp_exit ⟨ι, a, h, hok, H⟩
theorem AI_ret (H : Q .ret a h) : AI P .ret Q a h := by
  intro code hd base w0 ι0 ι w ca hok
  obtain rfl := dec_ret hd
  exact wp_ret ⟨ι, a, h, hok, H⟩
def AThen (K : List AV → AH → Prop) (Q : Exit → List AV → AH → Prop) : Exit → List AV → AH → Prop
  | .normal, a, h => K a h
  | e, a, h => Q e a h
theorem AI_seq {x y : IC} (H : AI P x (AThen (fun a h => AI P y Q a h) Q) a h) : AI P (.seq x y) Q a h := by
  intro code hd base w0 ι0 ι w ca hok
  obtain ⟨cx, cy, rfl, hx, hy⟩ := dec_seq hd
  refine wp_seq (Code.wp_mono ?_ (H cx hx base w0 ι0 ι w ca hok))
  rintro e ca' w' ⟨ι', a', h', hok', hq⟩
  cases e with
  | normal => exact hq cy hy base w0 ι0 ι' w' ca' hok'
  | _ => exact ⟨ι', a', h', hok', hq⟩
theorem AI_seqk {x y : IC} (H : ∀ K : List AV → AH → Prop, (∀ a h, AI P y Q a h → K a h) → AI P x (AThen K Q) a h) : AI P (.seq x y) Q a h := AI_seq (H _ fun _ _ h => h)
def ABlk (id : Nat) (Q : Exit → List AV → AH → Prop) : Exit → List AV → AH → Prop
  | .exit id', a, h => if id' = id then Q .normal a h else Q (.exit id') a h
  | e, a, h => Q e a h
theorem AI_block {id : Nat} {x : IC} (H : AI P x (ABlk id Q) a h) : AI P (.block id x) Q a h := by
  intro code hd base w0 ι0 ι w ca hok
  obtain ⟨cx, rfl, hx⟩ := dec_block hd
  refine wp_block (Code.wp_mono ?_ (H _ hx base w0 ι0 ι w ca hok))
  rintro e ca' w' ⟨ι', a', h', hok', hq⟩
  cases e with
  | exit id' =>
    simp only [Exit.inBlock, ABlk] at hq ⊢
    split
    · rw [if_pos ‹_›] at hq; exact ⟨ι', a', h', hok', hq⟩
    · rw [if_neg ‹_›] at hq; exact ⟨ι', a', h', hok', hq⟩
  | _ => exact ⟨ι', a', h', hok', hq⟩
theorem AI_loop {x : IC} (H : AIL P x Q a h) : AI P (.loop x) Q a h := by
  intro code hd base w0 ι0 ι w ca hok
  obtain ⟨cx, rfl, hx⟩ := dec_loop hd
  intro b k cs
  obtain ⟨e, a', w', hq, harr⟩ := H cx hx base w0 ι0 ι w ca hok b k cs
  exact ⟨e, a', w', hq, .of_steps (.one step_loop) harr⟩
theorem AIL_round {x : IC} (H : AI P x (AThen (fun a h => AIL P x Q a h) Q) a h) : AIL P x Q a h := by
  intro code hd base w0 ι0 ι w ca hok b k cs
  obtain ⟨e, a₁, w₁, ⟨ι', a', h', hok', hq⟩, harr⟩ := H code hd base w0 ι0 ι w ca hok b (.inLoop code :: k) cs
  cases e with
  | normal =>
    obtain ⟨e₂, a₂, w₂, hq₂, harr₂⟩ := hq code hd base w0 ι0 ι' w₁ a₁ hok' b k cs
    exact ⟨e₂, a₂, w₂, hq₂, .of_steps (Steps.trans harr (.one step_inLoop)) harr₂⟩
  | exit id => exact ⟨_, a₁, w₁, ⟨ι', a', h', hok', hq⟩, .pass (x := .inLoop code) rfl (fun _ _ => .inl (by simp)) harr⟩
  | goto l => exact ⟨_, a₁, w₁, ⟨ι', a', h', hok', hq⟩, .pass (x := .inLoop code) rfl (fun _ _ => .inl (by simp)) harr⟩
  | ret => exact ⟨_, a₁, w₁, ⟨ι', a', h', hok', hq⟩, .pass (x := .inLoop code) rfl (fun _ _ => .inl (by simp)) harr⟩
  | panic ch => exact ⟨_, a₁, w₁, ⟨ι', a', h', hok', hq⟩, .pass (x := .inLoop code) rfl (fun _ _ => .inl (by simp)) harr⟩
  | outgrown => exact ⟨_, a₁, w₁, ⟨ι', a', h', hok', hq⟩, .pass (x := .inLoop code) rfl (fun _ _ => .inl (by simp)) harr⟩
/-- A loop: by what is left to do. -/
theorem AIL_ind {x : IC} (I : Nat → List AV → AH → Prop) (H : ∀ n a h, I n a h → (∀ m a h, m < n → I m a h → AIL P x Q a h) → AI P x (AThen (fun a h => AIL P x Q a h) Q) a h) :
    ∀ n a h, I n a h → AIL P x Q a h := by
  intro n
  induction n using Nat.strongRecOn with
  | _ n ih => exact fun a h hI => AIL_round (H n a h hI fun m a h hm hI' => ih m hm a h hI')
theorem AI_reg {l : List IOp} (H : AS P l Q a h) : AI P (.reg l) Q a h := by
  intro code hd base w0 ι0 ι w ca hok
  obtain ⟨id, ops, rfl, hall, hl⟩ := dec_reg hd
  exact wp_region_list (H ops ops.toList hl hall base w0 ι0 ι w ca hok)
theorem AI_raw {c : Code} (H : AWP P c Q a h) : AI P (.raw c) Q a h := by
  intro code hd
  obtain rfl := dec_raw hd
  exact H
end
end Go.AL
