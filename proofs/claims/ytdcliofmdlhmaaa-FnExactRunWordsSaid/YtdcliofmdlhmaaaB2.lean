/- The abstract logic, part 11: from a contract to the call; memory that the call was handed. -/
import Derived.Test.YtdcliofmdlhmaaaB1
namespace Go.AL
open Go.RowKit

def enV (v : AV) : List AV := [v]
section
variable {P : Program} {Q : Exit → List AV → AH → Prop} {a : List AV} {h : AH}
theorem AS_gyH {op : Op} {d : Option Nat} {l : List IOp} {g : Nat} {t want : Bool} (hv : a[g]? = some (.b t)) (ht : t = want) (H : t = want → AS P (⟨d, op, none⟩ :: l) Q a h) : AS P (⟨d, op, some (g, want)⟩ :: l) Q a h := AS_gy hv ht (H ht)
theorem AS_gtnH {op : Op} {d : Option Nat} {l : List IOp} {g : Nat} {t : Bool} (hv : a[g]? = some (.b t)) (ht : t = false) (H : t = false → AS P l Q (st a d un) h) : AS P (⟨d, op, some (g, true)⟩ :: l) Q a h := AS_gtn hv ht (H ht)
theorem AS_gfnH {op : Op} {d : Option Nat} {l : List IOp} {g : Nat} {t : Bool} (hv : a[g]? = some (.b t)) (ht : t = true) (H : t = true → AS P l Q (st a d un) h) : AS P (⟨d, op, some (g, false)⟩ :: l) Q a h := AS_gfn hv ht (H ht)
theorem AI_cond_tH {c : Operand} {x y : IC} {t : Bool} (hc : ev a c = some (.b t)) (ht : t = true) (H : t = true → AI P x Q a h) : AI P (.cond c x y) Q a h := AI_cond_t hc ht (H ht)
theorem AI_cond_fH {c : Operand} {x y : IC} {t : Bool} (hc : ev a c = some (.b t)) (ht : t = false) (H : t = false → AI P y Q a h) : AI P (.cond c x y) Q a h := AI_cond_f hc ht (H ht)
end
/-- A world as the call finds it: nothing of it is the run's own. -/
structure RoRep (W : World) (ι : Pl) (h : AH) : Prop where
  rep : Rep W.heap.size W ι h W
  ro : ∀ m ∈ h.mt, m.own = false
theorem RoRep.empty (W : World) : RoRep W ⟨[], [], []⟩ ⟨[], [], []⟩ := by
  refine ⟨⟨rfl, rfl, rfl, Below.refl _ _, Nat.le_refl _, ?_, ?_, ?_, ?_, ?_, ?_, ?_, ?_, ?_, ?_, ?_, ?_⟩, by simp⟩ <;> intros <;> simp_all
/-- One block more, to be read. -/
def AH.ro (h : AH) (k : Nat) (l : List AV) : AH := ⟨h.cs ++ [l], h.mt ++ [⟨k, false, []⟩], h.mp⟩
theorem AH.le_ro (h : AH) (k : Nat) (l : List AV) : h.le (h.ro k l) := ⟨List.prefix_append _ _, List.prefix_append _ _, List.prefix_rfl⟩
theorem AH.ro_wf {h : AH} (wf : h.wf) (k : Nat) (l : List AV) : (h.ro k l).wf := wf.snoc l _ rfl
theorem RoRep.add {W : World} {ι : Pl} {h : AH} (H : RoRep W ι h) (pl : Place) (l : List AV) (hsc : l.all AV.sc = true)
    (hcell : ∀ (j : Nat) (v : AV), l[j]? = some v → ∃ cv, W.cell? ⟨pl.c, pl.o + j, none⟩ = some cv ∧ VRel ι v cv) (hin : pl.c < W.heap.size) :
    RoRep W (ι.add pl) (h.ro pl.k l) := by
  have R := H.rep
  have hle := ι.le_add pl
  refine ⟨⟨by simp [Pl.add, AH.ro, R.lb], by simp [AH.ro, R.lm], R.lp, R.below, R.base_le, ?_, ?_, ?_, ?_, ?_, ?_, ?_, ?_, ?_, ?_, R.mexcl, R.oth⟩, ?_⟩
  · intro b l' hb
    rcases get_snoc hb with ⟨_, hb⟩ | ⟨_, rfl⟩
    · exact R.sc b l' hb
    · exact hsc
  · intro b pl' l' hb hl j v hv
    rcases get_snoc hb with ⟨hlt, hb⟩ | ⟨he, rfl⟩
    · rcases get_snoc hl with ⟨_, hl⟩ | ⟨he', rfl⟩
      · obtain ⟨cv, h1, h2⟩ := R.cell b pl' l' hb hl j v hv
        exact ⟨cv, h1, h2.mono hle⟩
      · have := R.lb; omega
    · rcases get_snoc hl with ⟨hlt', hl⟩ | ⟨_, rfl⟩
      · have := R.lb; omega
      · obtain ⟨cv, h1, h2⟩ := hcell j v hv
        exact ⟨cv, h1, h2.mono hle⟩
  · intro b pl' m hb hm
    rcases get_snoc hb with ⟨hlt, hb⟩ | ⟨he, rfl⟩
    · rcases get_snoc hm with ⟨_, hm⟩ | ⟨he', rfl⟩
      · exact R.kk b pl' m hb hm
      · have := R.lb; have := R.lm; omega
    · rcases get_snoc hm with ⟨hlt', hm⟩ | ⟨_, rfl⟩
      · have := R.lb; have := R.lm; omega
      · rfl
  · intro b pl' hb
    rcases get_snoc hb with ⟨_, hb⟩ | ⟨_, rfl⟩
    · exact R.inb b pl' hb
    · exact hin
  · intro b pl' m l' hb hm hl ho
    have : m.own = false := by
      rcases get_snoc hm with ⟨_, hm⟩ | ⟨_, rfl⟩
      · exact H.ro m (List.mem_of_getElem? hm)
      · rfl
    rw [this] at ho; cases ho
  · intro b b' pl1 pl2 m m' l1 l2 hb hb' hm hm' hl hl' ho
    have : m.own = false := by
      rcases get_snoc hm with ⟨_, hm⟩ | ⟨_, rfl⟩
      · exact H.ro m (List.mem_of_getElem? hm)
      · rfl
    rw [this] at ho; cases ho
  · intro b b' pl1 pl2 m m' hb hb' hm hm' ho
    have : m.own = false := by
      rcases get_snoc hm with ⟨_, hm⟩ | ⟨_, rfl⟩
      · exact H.ro m (List.mem_of_getElem? hm)
      · rfl
    rw [this] at ho; cases ho
  · intro b b' m m' hm hb hm'
    rcases get_snoc hm' with ⟨_, hm'⟩ | ⟨_, rfl⟩
    · exact H.ro m' (List.mem_of_getElem? hm')
    · rfl
  · intro b m hm b' hb'
    rcases get_snoc hm with ⟨_, hm⟩ | ⟨_, rfl⟩
    · have := R.anclt b m hm b' hb'
      simp [AH.ro]; omega
    · simp at hb'
  · intro r c es h1 h2
    obtain ⟨h3, en, cl, h4, h5, h6⟩ := R.mcell r c es h1 h2
    exact ⟨h3, en, cl, h4, h5, fun j e e' a b => ⟨(h6 j e e' a b).1.mono hle, (h6 j e e' a b).2.mono hle⟩⟩
  · intro m hm
    rcases List.mem_append.1 hm with hm | hm
    · exact H.ro m hm
    · simp at hm; rw [hm]
/-- The call of a law. -/
theorem law_of {P : Program} {f : FuncId} {W : World} {ι : Pl} {h : AH} {args : List AV} {cargs : Array Value} (H : RoRep W ι h) (hv : VRels ι args cargs.toList)
    (hc : AC P f args h (fun r _ => r = .b true)) : Calls P f cargs W fun e W' => e = .returned (.bool true) ∧ Below W.heap.size W W' := by
  refine (hc.2 _ _ _ _ _ H.rep hv).mono ?_
  rintro e w' ⟨v, cv, ι', h', rfl, hle, hrep, hr, rfl⟩
  cases hr
  exact ⟨rfl, hrep.below⟩
end Go.AL
