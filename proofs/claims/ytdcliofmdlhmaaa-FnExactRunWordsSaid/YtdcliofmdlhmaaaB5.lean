/- The abstract logic, part 14: the commonest rules under short names. -/
import Derived.Test.YtdcliofmdlhmaaaB4
namespace Go.AL
/-- What stands in a slot. -/
def slotJ (a : List AV) (i : Nat) : AV := a.getD i un
/-- Slots of which nothing is said. -/
theorem exJ {a : List AV} {F : (Nat → AV) → List AV} (h : a = F (slotJ a)) : ∃ r, a = F r := ⟨slotJ a, h⟩
section
variable {P : Program} {Q : Exit → List AV → AH → Prop} {a : List AV} {h : AH} {d : Option Nat} {l : List IOp}
theorem wmv {x : Operand} {v : AV} (hx : ev a x = some v) (hk : AS P l Q (st a d v) h) : AS P (⟨d, .move x, none⟩ :: l) Q a h := AS_op (OpR_move hx hk)
theorem wag {x : Operand} {v : AV} (hx : ev a x = some v) (hk : AS P l Q (st a d v) h) : AS P (⟨d, .assign x, none⟩ :: l) Q a h := AS_op (OpR_assign hx hk)
theorem wpt {c x y : Operand} {t : Bool} {v : AV} (hc : ev a c = some (.b t)) (ht : t = true) (hx : ev a x = some v) (hk : AS P l Q (st a d v) h) : AS P (⟨d, .pick c x y, none⟩ :: l) Q a h := AS_op (OpR_pick_t hc ht hx hk)
theorem wpf {c x y : Operand} {t : Bool} {v : AV} (hc : ev a c = some (.b t)) (ht : t = false) (hx : ev a y = some v) (hk : AS P l Q (st a d v) h) : AS P (⟨d, .pick c x y, none⟩ :: l) Q a h := AS_op (OpR_pick_f hc ht hx hk)
theorem wpb {c x y : Operand} {t u v : Bool} (hc : ev a c = some (.b t)) (hx : ev a x = some (.b u)) (hy : ev a y = some (.b v)) (hk : AS P l Q (st a d (.b (if t then u else v))) h) : AS P (⟨d, .pick c x y, none⟩ :: l) Q a h := AS_op (OpR_pick_b hc hx hy hk)
theorem wbn {op : BinOp} {T T' : TypeId} {x y : Operand} {k : IntKind} {m n : Int} {v : AV} (hx : ev a x = some (.i k m)) (hy : ev a y = some (.i k n)) (hv : binI op k m n = some v) (hk : AS P l Q (st a d v) h) : AS P (⟨d, .binOp op T x y T', none⟩ :: l) Q a h := AS_op (OpR_bin hx hy hv hk)
theorem war {op : BinOp} {T T' : TypeId} {x y : Operand} {m n : Int} (z : Int) (hx : ev a x = some (.i .i64 m)) (hy : ev a y = some (.i .i64 n)) (hz : binI op .i64 m n = some (.i .i64 (IntKind.i64.wrap z))) (h1 : -9223372036854775808 ≤ z) (h2 : z ≤ 9223372036854775807)
    (hk : AS P l Q (st a d (.i .i64 z)) h) : AS P (⟨d, .binOp op T x y T', none⟩ :: l) Q a h := AS_op (OpR_arith z hx hy hz h1 h2 hk)
theorem wnt {T : TypeId} {x : Operand} {t : Bool} (hx : ev a x = some (.b t)) (hk : AS P l Q (st a d (.b !t)) h) : AS P (⟨d, .unOp .not T x, none⟩ :: l) Q a h := AS_op (OpR_not hx hk)
theorem wex {x : Operand} {j : Nat} {vs : List AV} {v : AV} (hx : ev a x = some (.tup vs)) (hj : vs[j]? = some v) (hk : AS P l Q (st a d v) h) : AS P (⟨d, .extract x j, none⟩ :: l) Q a h := AS_op (OpR_extract hx hj hk)
theorem wmf {g : FuncId} {cap : Array Operand} {vs : List AV} (hc : evs a cap.toList = some vs) (hk : AS P l Q (st a d (.f g vs)) h) : AS P (⟨d, .makeFunc (.func g) #[] cap, none⟩ :: l) Q a h := AS_op (OpR_makeFunc hc hk)
theorem wnc {x : Operand} {b o' : Nat} (hx : ev a x = some (.p b o')) (hk : AS P l Q (st a d (.p b o')) h) : AS P (⟨d, .nilCheck x, none⟩ :: l) Q a h := AS_op (OpR_nilCheck hx hk)
theorem wbq {op : BinOp} {T T' : TypeId} {x y : Operand} {t u : Bool} (hT : P.underlying T = some .bool) (hx : ev a x = some (.b t)) (hy : ev a y = some (.b u)) (z : Bool) (hop : (op = .eql ∧ z = (t == u)) ∨ (op = .neq ∧ z = (t != u))) (hk : AS P l Q (st a d (.b z)) h) :
    AS P (⟨d, .binOp op T x y T', none⟩ :: l) Q a h := AS_op (OpR_beq hT hx hy z hop hk)
end
end Go.AL
