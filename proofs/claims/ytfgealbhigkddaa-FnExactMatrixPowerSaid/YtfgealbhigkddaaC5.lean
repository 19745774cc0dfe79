/- The logic of what is owned, part 5: slices of slices; what is let go. -/
import Derived.Test.YtfgealbhigkddaaC4
namespace Go.AL
set_option linter.unusedVariables false
set_option linter.unusedSimpArgs false
open Go.RowKit
theorem enI1 (x : Int) : (enI x).length = 1 := rfl
theorem enV1 (x : AV) : (enV x).length = 1 := rfl
theorem enB1 (x : Bool) : (enB x).length = 1 := rfl
theorem enStep2 (x : Int × Int) : (enStep x).length = 2 := rfl
theorem enMat4 (x : MatM) : (enMat x).length = 4 := rfl
def enS (s : ByteArray) : List AV := [.s s]
theorem enS1 (x : ByteArray) : (enS x).length = 1 := rfl
/-- The rows of a slice of slices, each owned. -/
def rowsI : List AV → List (List Int) → List It
  | u :: us, l :: ll => .sl u 1 (l.flatMap enI) :: rowsI us ll
  | _, _ => []
theorem rowsI_snoc : ∀ {us : List AV} {ll : List (List Int)} (u : AV) (l : List Int), us.length = ll.length → rowsI (us ++ [u]) (ll ++ [l]) = rowsI us ll ++ [.sl u 1 (l.flatMap enI)]
  | [], [], u, l, _ => rfl
  | v :: us, k :: ll, u, l, h => by simp only [List.cons_append, rowsI]; rw [rowsI_snoc u l (by simpa using h)]
  | [], _ :: _, _, _, h => by simp at h
  | _ :: _, [], _, _, h => by simp at h
theorem rowsI_get : ∀ {us : List AV} {ll : List (List Int)} {i : Nat} {u : AV} {l : List Int}, us[i]? = some u → ll[i]? = some l → It.sl u 1 (l.flatMap enI) ∈ rowsI us ll
  | [], _, _, _, _, h, _ => by simp at h
  | _ :: _, [], _, _, _, _, h => by simp at h
  | v :: us, k :: ll, 0, u, l, h1, h2 => by simp at h1 h2; subst h1; subst h2; simp [rowsI]
  | v :: us, k :: ll, i + 1, u, l, h1, h2 => by simp only [rowsI]; exact List.mem_cons_of_mem _ (rowsI_get (by simpa using h1) (by simpa using h2))
section
variable {P : Program} {h0 h : AH} {L M : List It} {Q : Exit → List AV → List It → Prop} {a : List AV} {l : List IOp} {d : Option Nat} {c : IC}
theorem Loq.rdM {α : Type} {enc : α → List AV} {k : Nat} {v : AV} {ll : List α} (H : Loq h0 h L) (hx : It.sl v k (ll.flatMap enc) ∈ L) (hke : ∀ x, (enc x).length = k) (hk0 : 0 < k) : RdG k enc h v ll := by
  obtain ⟨i, hi⟩ := List.mem_iff_getElem?.1 hx
  exact H.rdI i hi hke hk0
theorem Loq.ownM {α : Type} {enc : α → List AV} {k : Nat} {v : AV} {ll : List α} (H : Loq h0 h L) (hx : It.sl v k (ll.flatMap enc) ∈ L) (hke : ∀ x, (enc x).length = k) (hk0 : 0 < k) : Own h0 k enc h v ll := by
  obtain ⟨i, hi⟩ := List.mem_iff_getElem?.1 hx
  exact H.ownI i hi hke hk0
theorem Loq.ss {v : AV} {us : List AV} {ll : List (List Int)} (H : Loq h0 h L) (ho : It.sl v 1 (us.flatMap enV) ∈ L) (hr : ∀ x ∈ rowsI us ll, x ∈ L) (hl : us.length = ll.length) : RdSS h v ll us :=
  ⟨H.rdM ho enV1 (by decide), hl, fun i u q hu hq => H.rdM (hr _ (rowsI_get hu hq)) enI1 (by decide)⟩
theorem LIL_drop (k : Nat) (H : LIL P h0 (L.drop k) c Q a) : LIL P h0 L c Q a := LIL_sub (List.drop_sublist k L) H
theorem LI_drop (k : Nat) (H : LI P h0 (L.drop k) c Q a) : LI P h0 L c Q a := fun h HL => H h (HL.sub (List.drop_sublist k L))
theorem LS_drop (k : Nat) (H : LS P h0 (L.drop k) l Q a) : LS P h0 L l Q a := LS_sub (List.drop_sublist k L) H
/-- A row more: it joins the rows. -/
theorem push_perm {x y : It} {us : List AV} {ll : List (List Int)} {u : AV} {l : List Int} (hl : us.length = ll.length) (B : List It) : List.Perm (y :: .sl u 1 (l.flatMap enI) :: x :: (rowsI us ll ++ B)) (y :: x :: (rowsI (us ++ [u]) (ll ++ [l]) ++ B)) := by
  rw [rowsI_snoc u l hl]
  refine .cons _ ((List.Perm.swap _ _ _).trans (.cons _ ?_))
  rw [List.append_assoc]
  exact List.perm_middle.symm
theorem LIL_push {x y : It} {us : List AV} {ll : List (List Int)} {u : AV} {l : List Int} {B : List It} (hl : us.length = ll.length) (H : LIL P h0 (x :: (rowsI (us ++ [u]) (ll ++ [l]) ++ B)) c Q a) :
    LIL P h0 (y :: .sl u 1 (l.flatMap enI) :: x :: (rowsI us ll ++ B)) c Q a := LIL_perm (push_perm hl B) (LIL_drop 1 H)
end
end Go.AL
