/- The short forms of the functions' code, and facts on types. -/
import Derived.Test.YtlgjakoeogpjlaaProg
import Derived.Test.YtlgjakoeogpjlaaD3
namespace Go.Proofs.Ytlgjakoeogpjlaa
open Go.AL
set_option linter.unusedVariables false
theorem sz0 : szT Try.prog 0 = some 1 := by kernel_rfl
theorem by0 : byT Try.prog 0 = some 0 := by kernel_rfl
theorem ag0 : aggT Try.prog 0 = some false := by kernel_rfl
instance jsz0 : Tsz Try.prog 0 1 := ⟨sz0⟩
instance jby0 : Tby Try.prog 0 0 := ⟨by0⟩
instance jag0 : Tag Try.prog 0 false := ⟨ag0⟩
theorem sz1 : szT Try.prog 1 = some 1 := by kernel_rfl
theorem by1 : byT Try.prog 1 = some 8 := by kernel_rfl
theorem ag1 : aggT Try.prog 1 = some false := by kernel_rfl
instance jsz1 : Tsz Try.prog 1 1 := ⟨sz1⟩
instance jby1 : Tby Try.prog 1 8 := ⟨by1⟩
instance jag1 : Tag Try.prog 1 false := ⟨ag1⟩
theorem ze1 : zeroA Try.prog 1 = some .nf := by kernel_rfl
instance jze1 : Tze Try.prog 1 (.nf) := ⟨ze1⟩
theorem sz2 : szT Try.prog 2 = some 1 := by kernel_rfl
theorem by2 : byT Try.prog 2 = some 8 := by kernel_rfl
theorem ag2 : aggT Try.prog 2 = some false := by kernel_rfl
instance jsz2 : Tsz Try.prog 2 1 := ⟨sz2⟩
instance jby2 : Tby Try.prog 2 8 := ⟨by2⟩
instance jag2 : Tag Try.prog 2 false := ⟨ag2⟩
instance jik2 : Tik Try.prog 2 .i64 := ⟨Try.underlying2⟩
theorem ze2 : zeroA Try.prog 2 = some (.i .i64 0) := by kernel_rfl
instance jze2 : Tze Try.prog 2 (.i .i64 0) := ⟨ze2⟩
theorem sz3 : szT Try.prog 3 = some 1 := by kernel_rfl
theorem by3 : byT Try.prog 3 = some 8 := by kernel_rfl
theorem ag3 : aggT Try.prog 3 = some false := by kernel_rfl
instance jsz3 : Tsz Try.prog 3 1 := ⟨sz3⟩
instance jby3 : Tby Try.prog 3 8 := ⟨by3⟩
instance jag3 : Tag Try.prog 3 false := ⟨ag3⟩
instance jik3 : Tik Try.prog 3 .i64 := ⟨Try.underlying3⟩
theorem ze3 : zeroA Try.prog 3 = some (.i .i64 0) := by kernel_rfl
instance jze3 : Tze Try.prog 3 (.i .i64 0) := ⟨ze3⟩
theorem sz4 : szT Try.prog 4 = some 1 := by kernel_rfl
theorem by4 : byT Try.prog 4 = some 1 := by kernel_rfl
theorem ag4 : aggT Try.prog 4 = some false := by kernel_rfl
instance jsz4 : Tsz Try.prog 4 1 := ⟨sz4⟩
instance jby4 : Tby Try.prog 4 1 := ⟨by4⟩
instance jag4 : Tag Try.prog 4 false := ⟨ag4⟩
instance jbo4 : Tbo Try.prog 4 := ⟨Try.underlying4⟩
theorem ze4 : zeroA Try.prog 4 = some (.b false) := by kernel_rfl
instance jze4 : Tze Try.prog 4 (.b false) := ⟨ze4⟩
theorem sz5 : szT Try.prog 5 = some 1 := by kernel_rfl
theorem by5 : byT Try.prog 5 = some 1 := by kernel_rfl
theorem ag5 : aggT Try.prog 5 = some false := by kernel_rfl
instance jsz5 : Tsz Try.prog 5 1 := ⟨sz5⟩
instance jby5 : Tby Try.prog 5 1 := ⟨by5⟩
instance jag5 : Tag Try.prog 5 false := ⟨ag5⟩
instance jik5 : Tik Try.prog 5 .u8 := ⟨Try.underlying5⟩
theorem ze5 : zeroA Try.prog 5 = some (.i .u8 0) := by kernel_rfl
instance jze5 : Tze Try.prog 5 (.i .u8 0) := ⟨ze5⟩
theorem sz6 : szT Try.prog 6 = some 1 := by kernel_rfl
theorem by6 : byT Try.prog 6 = some 1 := by kernel_rfl
theorem ag6 : aggT Try.prog 6 = some false := by kernel_rfl
instance jsz6 : Tsz Try.prog 6 1 := ⟨sz6⟩
instance jby6 : Tby Try.prog 6 1 := ⟨by6⟩
instance jag6 : Tag Try.prog 6 false := ⟨ag6⟩
instance jik6 : Tik Try.prog 6 .u8 := ⟨Try.underlying6⟩
theorem ze6 : zeroA Try.prog 6 = some (.i .u8 0) := by kernel_rfl
instance jze6 : Tze Try.prog 6 (.i .u8 0) := ⟨ze6⟩
theorem sz22 : szT Try.prog 22 = some 1 := by kernel_rfl
theorem by22 : byT Try.prog 22 = some 24 := by kernel_rfl
theorem ag22 : aggT Try.prog 22 = some false := by kernel_rfl
instance jsz22 : Tsz Try.prog 22 1 := ⟨sz22⟩
instance jby22 : Tby Try.prog 22 24 := ⟨by22⟩
instance jag22 : Tag Try.prog 22 false := ⟨ag22⟩
instance jsl22 : Tsl Try.prog 22 3 := ⟨Try.underlying22⟩
theorem ze22 : zeroA Try.prog 22 = some .ns := by kernel_rfl
instance jze22 : Tze Try.prog 22 (.ns) := ⟨ze22⟩
theorem sz35 : szT Try.prog 35 = some 1 := by kernel_rfl
theorem by35 : byT Try.prog 35 = some 24 := by kernel_rfl
theorem ag35 : aggT Try.prog 35 = some false := by kernel_rfl
instance jsz35 : Tsz Try.prog 35 1 := ⟨sz35⟩
instance jby35 : Tby Try.prog 35 24 := ⟨by35⟩
instance jag35 : Tag Try.prog 35 false := ⟨ag35⟩
instance jsl35 : Tsl Try.prog 35 5 := ⟨Try.underlying35⟩
theorem ze35 : zeroA Try.prog 35 = some .ns := by kernel_rfl
instance jze35 : Tze Try.prog 35 (.ns) := ⟨ze35⟩
theorem sz38 : szT Try.prog 38 = some 1 := by kernel_rfl
theorem by38 : byT Try.prog 38 = some 8 := by kernel_rfl
theorem ag38 : aggT Try.prog 38 = some false := by kernel_rfl
instance jsz38 : Tsz Try.prog 38 1 := ⟨sz38⟩
instance jby38 : Tby Try.prog 38 8 := ⟨by38⟩
instance jag38 : Tag Try.prog 38 false := ⟨ag38⟩
theorem ze38 : zeroA Try.prog 38 = some .nf := by kernel_rfl
instance jze38 : Tze Try.prog 38 (.nf) := ⟨ze38⟩
theorem sz58 : szT Try.prog 58 = some 1 := by kernel_rfl
theorem by58 : byT Try.prog 58 = some 8 := by kernel_rfl
theorem ag58 : aggT Try.prog 58 = some false := by kernel_rfl
instance jsz58 : Tsz Try.prog 58 1 := ⟨sz58⟩
instance jby58 : Tby Try.prog 58 8 := ⟨by58⟩
instance jag58 : Tag Try.prog 58 false := ⟨ag58⟩
theorem ze58 : zeroA Try.prog 58 = some .np := by kernel_rfl
instance jze58 : Tze Try.prog 58 (.np) := ⟨ze58⟩
theorem sz59 : szT Try.prog 59 = some 1 := by kernel_rfl
theorem by59 : byT Try.prog 59 = some 8 := by kernel_rfl
theorem ag59 : aggT Try.prog 59 = some false := by kernel_rfl
instance jsz59 : Tsz Try.prog 59 1 := ⟨sz59⟩
instance jby59 : Tby Try.prog 59 8 := ⟨by59⟩
instance jag59 : Tag Try.prog 59 false := ⟨ag59⟩
instance jik59 : Tik Try.prog 59 .u64 := ⟨Try.underlying59⟩
theorem ze59 : zeroA Try.prog 59 = some (.i .u64 0) := by kernel_rfl
instance jze59 : Tze Try.prog 59 (.i .u64 0) := ⟨ze59⟩
theorem sz61 : szT Try.prog 61 = some 3 := by kernel_rfl
theorem by61 : byT Try.prog 61 = some 40 := by kernel_rfl
theorem ag61 : aggT Try.prog 61 = some true := by kernel_rfl
instance jsz61 : Tsz Try.prog 61 3 := ⟨sz61⟩
instance jby61 : Tby Try.prog 61 40 := ⟨by61⟩
instance jag61 : Tag Try.prog 61 true := ⟨ag61⟩
theorem ze61 : zeroA Try.prog 61 = some (.agg [.ns, (.i .i64 0), (.i .u64 0)]) := by kernel_rfl
instance jze61 : Tze Try.prog 61 (.agg [.ns, (.i .i64 0), (.i .u64 0)]) := ⟨ze61⟩
theorem fl61_0 : fldA Try.prog 61 0 = some (0, 1, false) := by kernel_rfl
instance jfl61_0 : Tfl Try.prog 61 0 0 1 false := ⟨fl61_0⟩
theorem fl61_1 : fldA Try.prog 61 1 = some (1, 1, false) := by kernel_rfl
instance jfl61_1 : Tfl Try.prog 61 1 1 1 false := ⟨fl61_1⟩
theorem fl61_2 : fldA Try.prog 61 2 = some (2, 1, false) := by kernel_rfl
instance jfl61_2 : Tfl Try.prog 61 2 2 1 false := ⟨fl61_2⟩
theorem pa61 : plA Try.prog 61 = some [(0, 1), (1, 1), (2, 1)] := by kernel_rfl
instance jpl61 : Tpl Try.prog 61 [(0, 1), (1, 1), (2, 1)] := ⟨pa61⟩

/-- laws.big -/
def c31 : IC :=
  (.seq
  (.reg [
    ⟨some 4, .assign (.const (.bool false)), none⟩])
  (.seq
  (.reg [
    ⟨some 5, .move (.tmp 0), none⟩,
    ⟨some 6, .call { callee := .builtin .len, args := #[.tmp 5], argTypes := #[35] }, none⟩,
    ⟨some 7, .binOp .gtr 3 (.tmp 6) (.const (.int .i64 1048576)) 3, none⟩,
    ⟨some 8, .move (.tmp 7), none⟩,
    ⟨some 9, .move (.tmp 1), some (8, false)⟩,
    ⟨some 10, .call { callee := .builtin .len, args := #[.tmp 9], argTypes := #[35] }, some (8, false)⟩,
    ⟨some 11, .move (.tmp 0), some (8, false)⟩,
    ⟨some 12, .call { callee := .builtin .len, args := #[.tmp 11], argTypes := #[35] }, some (8, false)⟩,
    ⟨some 13, .binOp .sub 3 (.const (.int .i64 1048576)) (.tmp 12) 3, some (8, false)⟩,
    ⟨some 14, .binOp .gtr 3 (.tmp 10) (.tmp 13) 3, some (8, false)⟩,
    ⟨some 15, .pick (.tmp 8) (.const (.bool true)) (.tmp 14), none⟩,
    ⟨some 4, .assign (.tmp 15), none⟩])
  .ret))
theorem hd31 : Try.f31.body.map dec = some c31 := by kernel_rfl
theorem e31 {R : AV → AH → Prop} {h : AH} (x0 x1 : AV) (H : h.wf → AI Try.prog c31 (RetQ Try.prog [.tmp 4] R) [x0, x1, un, un, un, un, un, un, un, un, un, un, un, un, un, un] h) : AC Try.prog 31 [x0, x1] h R :=
  AC_of' (rs := [.tmp 4]) Try.func31 (by kernel_rfl) hd31 Try.ntmps31 rfl H

noncomputable def rg93_0 : Array Oper := rawAt Try.f93 0
noncomputable def rg93_1 : Array Oper := rawAt Try.f93 1
noncomputable def rg93_2 : Array Oper := rawAt Try.f93 2
/-- (*spec.l1Cur).next -/
noncomputable def c93 : IC :=
  (.seq
  (.reg [
    ⟨some 2, .assign (.const (.int .i64 0)), none⟩])
  (.seq
  (.reg [
    ⟨some 3, .assign (.const (.int .i64 0)), none⟩])
  (.seq
  (.seq
  (.raw (.region 2 rg93_0 true))
  (.cond (.tmp 13)
    (.raw (.region 3 rg93_1 true))
    .skip))
  (.seq
  (.reg [
    ⟨some 25, .move (.tmp 0), none⟩,
    ⟨some 26, .nilCheck (.tmp 25), none⟩,
    ⟨some 27, .fieldAddr 61 (.tmp 26) 1, none⟩,
    ⟨some 28, .load 3 (.tmp 27), none⟩,
    ⟨some 29, .binOp .add 3 (.tmp 28) (.const (.int .i64 1)) 3, none⟩,
    ⟨some 30, .nilCheck (.tmp 25), none⟩,
    ⟨some 31, .fieldAddr 61 (.tmp 30) 1, none⟩,
    ⟨none, .store 3 (.tmp 31) (.tmp 29), none⟩])
  (.seq
  (.reg [
    ⟨some 32, .move (.tmp 0), none⟩,
    ⟨some 33, .move (.tmp 0), none⟩,
    ⟨some 34, .nilCheck (.tmp 33), none⟩,
    ⟨some 35, .fieldAddr 61 (.tmp 34) 2, none⟩,
    ⟨some 36, .load 59 (.tmp 35), none⟩,
    ⟨some 37, .binOp .mul 59 (.tmp 36) (.const (.int .u64 6364136223846793005)) 59, none⟩,
    ⟨some 38, .move (.tmp 3), none⟩,
    ⟨some 39, .convert 3 59 (.tmp 38), none⟩,
    ⟨some 40, .binOp .add 59 (.tmp 37) (.tmp 39) 59, none⟩,
    ⟨some 41, .binOp .add 59 (.tmp 40) (.const (.int .u64 1442695040888963407)) 59, none⟩,
    ⟨some 42, .nilCheck (.tmp 32), none⟩,
    ⟨some 43, .fieldAddr 61 (.tmp 42) 2, none⟩,
    ⟨none, .store 59 (.tmp 43) (.tmp 41), none⟩])
  (.seq
  (.seq
  (.raw (.region 6 rg93_2 true))
  (.cond (.tmp 53)
    (.seq
    (.reg [
      ⟨some 54, .move (.tmp 3), none⟩,
      ⟨some 2, .assign (.tmp 54), none⟩])
    .ret)
    .skip))
  (.seq
  (.reg [
    ⟨some 55, .move (.tmp 0), none⟩,
    ⟨some 56, .nilCheck (.tmp 55), none⟩,
    ⟨some 57, .fieldAddr 61 (.tmp 56) 2, none⟩,
    ⟨some 58, .load 59 (.tmp 57), none⟩,
    ⟨some 59, .binOp .shr 59 (.tmp 58) (.const (.int .u64 40)) 67, none⟩,
    ⟨some 60, .binOp .and 59 (.tmp 59) (.const (.int .u64 255)) 59, none⟩,
    ⟨some 61, .convert 59 3 (.tmp 60), none⟩,
    ⟨some 2, .assign (.tmp 61), none⟩])
  .ret)))))))
theorem hd93 : Try.f93.body.map dec = some c93 := by kernel_rfl
theorem e93 {R : AV → AH → Prop} {h : AH} (x0 : AV) (H : h.wf → AI Try.prog c93 (RetQ Try.prog [.tmp 2] R) [x0, un, un, un, un, un, un, un, un, un, un, un, un, un, un, un, un, un, un, un, un, un, un, un, un, un, un, un, un, un, un, un, un, un, un, un, un, un, un, un, un, un, un, un, un, un, un, un, un, un, un, un, un, un, un, un, un, un, un, un, un, un] h) : AC Try.prog 93 [x0] h R :=
  AC_of' (rs := [.tmp 2]) Try.func93 (by kernel_rfl) hd93 Try.ntmps93 rfl H
theorem dz93_0 {h0 : AH} {L : List It} {Q : Exit → List AV → List It → Prop} {a : List AV} {id : Nat} (H : LX Try.prog ⟨[], []⟩ h0 L L (.c (⟨some 4, .move (.tmp 0), none⟩, .p) <| .c (⟨some 5, .nilCheck (.tmp 4), none⟩, .p) <| .c (⟨some 6, .fieldAddr 61 (.tmp 5) 1, none⟩, .p) <| .c (⟨some 7, .load 3 (.tmp 6), none⟩, .l) <| .c (⟨some 8, .move (.tmp 0), none⟩, .p) <| .c (⟨some 9, .nilCheck (.tmp 8), none⟩, .p) <| .c (⟨some 10, .fieldAddr 61 (.tmp 9) 0, none⟩, .p) <| .c (⟨some 11, .load 35 (.tmp 10), none⟩, .l) <| .c (⟨some 12, .call { callee := .builtin .len, args := #[.tmp 11], argTypes := #[35] }, none⟩, .p) <| .c (⟨some 13, .binOp .lss 3 (.tmp 7) (.tmp 12) 3, none⟩, .p) <| .n) Q a) : LI Try.prog h0 L (.raw (.region id rg93_0 true)) Q a :=
  LI_draw (.c (0, .p) <| .c (1, .p) <| .c (2, .p) <| .c (3, .l) <| .c (4, .p) <| .c (5, .p) <| .c (6, .p) <| .c (7, .l) <| .c (8, .p) <| .c (9, .p) <| .n) [] (by kernel_rfl) (by kernel_rfl) (by kernel_rfl) H
theorem dr93_0 (m : Nat) {Q : Exit → List AV → AH → Prop} {a : List AV} {h : AH} {id : Nat} (H : AX Try.prog m h [(⟨some 4, .move (.tmp 0), none⟩, true),
  (⟨some 5, .nilCheck (.tmp 4), none⟩, true),
  (⟨some 6, .fieldAddr 61 (.tmp 5) 1, none⟩, true),
  (⟨some 7, .load 3 (.tmp 6), none⟩, true),
  (⟨some 8, .move (.tmp 0), none⟩, true),
  (⟨some 9, .nilCheck (.tmp 8), none⟩, true),
  (⟨some 10, .fieldAddr 61 (.tmp 9) 0, none⟩, true),
  (⟨some 11, .load 35 (.tmp 10), none⟩, true),
  (⟨some 12, .call { callee := .builtin .len, args := #[.tmp 11], argTypes := #[35] }, none⟩, true),
  (⟨some 13, .binOp .lss 3 (.tmp 7) (.tmp 12) 3, none⟩, true)] (fun a' h' => Q .normal a' h') a h) : AI Try.prog (.raw (.region id rg93_0 true)) Q a h :=
  AI_draw [(0, true), (1, true), (2, true), (3, true), (4, true), (5, true), (6, true), (7, true), (8, true), (9, true)] m (by kernel_rfl) (by kernel_rfl) (by kernel_rfl) H
theorem dz93_1 {h0 : AH} {L : List It} {Q : Exit → List AV → List It → Prop} {a : List AV} {id : Nat} (H : LX Try.prog ⟨[], []⟩ h0 L L (.c (⟨some 14, .move (.tmp 0), none⟩, .p) <| .c (⟨some 15, .nilCheck (.tmp 14), none⟩, .p) <| .c (⟨some 16, .fieldAddr 61 (.tmp 15) 0, none⟩, .p) <| .c (⟨some 17, .load 35 (.tmp 16), none⟩, .l) <| .c (⟨some 18, .move (.tmp 0), none⟩, .p) <| .c (⟨some 19, .nilCheck (.tmp 18), none⟩, .p) <| .c (⟨some 20, .fieldAddr 61 (.tmp 19) 1, none⟩, .p) <| .c (⟨some 21, .load 3 (.tmp 20), none⟩, .l) <| .c (⟨some 22, .indexAddr 35 (.tmp 17) (.tmp 21), none⟩, .p) <| .c (⟨some 23, .load 5 (.tmp 22), none⟩, .l) <| .c (⟨some 24, .convert 5 3 (.tmp 23), none⟩, .p) <| .c (⟨some 3, .assign (.tmp 24), none⟩, .p) <| .n) Q a) : LI Try.prog h0 L (.raw (.region id rg93_1 true)) Q a :=
  LI_draw (.c (0, .p) <| .c (1, .p) <| .c (2, .p) <| .c (3, .l) <| .c (4, .p) <| .c (5, .p) <| .c (6, .p) <| .c (7, .l) <| .c (8, .p) <| .c (9, .l) <| .c (10, .p) <| .c (11, .p) <| .n) [] (by kernel_rfl) (by kernel_rfl) (by kernel_rfl) H
theorem dr93_1 (m : Nat) {Q : Exit → List AV → AH → Prop} {a : List AV} {h : AH} {id : Nat} (H : AX Try.prog m h [(⟨some 14, .move (.tmp 0), none⟩, true),
  (⟨some 15, .nilCheck (.tmp 14), none⟩, true),
  (⟨some 16, .fieldAddr 61 (.tmp 15) 0, none⟩, true),
  (⟨some 17, .load 35 (.tmp 16), none⟩, true),
  (⟨some 18, .move (.tmp 0), none⟩, true),
  (⟨some 19, .nilCheck (.tmp 18), none⟩, true),
  (⟨some 20, .fieldAddr 61 (.tmp 19) 1, none⟩, true),
  (⟨some 21, .load 3 (.tmp 20), none⟩, true),
  (⟨some 22, .indexAddr 35 (.tmp 17) (.tmp 21), none⟩, true),
  (⟨some 23, .load 5 (.tmp 22), none⟩, true),
  (⟨some 24, .convert 5 3 (.tmp 23), none⟩, true),
  (⟨some 3, .assign (.tmp 24), none⟩, true)] (fun a' h' => Q .normal a' h') a h) : AI Try.prog (.raw (.region id rg93_1 true)) Q a h :=
  AI_draw [(0, true), (1, true), (2, true), (3, true), (4, true), (5, true), (6, true), (7, true), (8, true), (9, true), (10, true), (11, true)] m (by kernel_rfl) (by kernel_rfl) (by kernel_rfl) H
theorem dz93_2 {h0 : AH} {L : List It} {Q : Exit → List AV → List It → Prop} {a : List AV} {id : Nat} (H : LX Try.prog ⟨[], []⟩ h0 L L (.c (⟨some 44, .move (.tmp 0), none⟩, .p) <| .c (⟨some 45, .nilCheck (.tmp 44), none⟩, .p) <| .c (⟨some 46, .fieldAddr 61 (.tmp 45) 1, none⟩, .p) <| .c (⟨some 47, .load 3 (.tmp 46), none⟩, .l) <| .c (⟨some 48, .move (.tmp 0), none⟩, .p) <| .c (⟨some 49, .nilCheck (.tmp 48), none⟩, .p) <| .c (⟨some 50, .fieldAddr 61 (.tmp 49) 0, none⟩, .p) <| .c (⟨some 51, .load 35 (.tmp 50), none⟩, .l) <| .c (⟨some 52, .call { callee := .builtin .len, args := #[.tmp 51], argTypes := #[35] }, none⟩, .p) <| .c (⟨some 53, .binOp .leq 3 (.tmp 47) (.tmp 52) 3, none⟩, .p) <| .n) Q a) : LI Try.prog h0 L (.raw (.region id rg93_2 true)) Q a :=
  LI_draw (.c (0, .p) <| .c (1, .p) <| .c (2, .p) <| .c (3, .l) <| .c (4, .p) <| .c (5, .p) <| .c (6, .p) <| .c (7, .l) <| .c (8, .p) <| .c (9, .p) <| .n) [] (by kernel_rfl) (by kernel_rfl) (by kernel_rfl) H
theorem dr93_2 (m : Nat) {Q : Exit → List AV → AH → Prop} {a : List AV} {h : AH} {id : Nat} (H : AX Try.prog m h [(⟨some 44, .move (.tmp 0), none⟩, true),
  (⟨some 45, .nilCheck (.tmp 44), none⟩, true),
  (⟨some 46, .fieldAddr 61 (.tmp 45) 1, none⟩, true),
  (⟨some 47, .load 3 (.tmp 46), none⟩, true),
  (⟨some 48, .move (.tmp 0), none⟩, true),
  (⟨some 49, .nilCheck (.tmp 48), none⟩, true),
  (⟨some 50, .fieldAddr 61 (.tmp 49) 0, none⟩, true),
  (⟨some 51, .load 35 (.tmp 50), none⟩, true),
  (⟨some 52, .call { callee := .builtin .len, args := #[.tmp 51], argTypes := #[35] }, none⟩, true),
  (⟨some 53, .binOp .leq 3 (.tmp 47) (.tmp 52) 3, none⟩, true)] (fun a' h' => Q .normal a' h') a h) : AI Try.prog (.raw (.region id rg93_2 true)) Q a h :=
  AI_draw [(0, true), (1, true), (2, true), (3, true), (4, true), (5, true), (6, true), (7, true), (8, true), (9, true)] m (by kernel_rfl) (by kernel_rfl) (by kernel_rfl) H

/-- (*spec.l1Cur).pick -/
def c73 : IC :=
  (.seq
  (.reg [
    ⟨some 4, .assign (.const (.int .i64 0)), none⟩])
  (.seq
  (.seq
  (.reg [
    ⟨some 6, .move (.tmp 1), none⟩,
    ⟨some 7, .binOp .leq 3 (.tmp 6) (.const (.int .i64 1)) 3, none⟩])
  (.cond (.tmp 7)
    (.seq
    (.reg [
      ⟨some 4, .assign (.const (.int .i64 0)), none⟩])
    .ret)
    .skip))
  (.seq
  (.reg [
    ⟨some 8, .move (.tmp 0), none⟩,
    ⟨some 9, .call { callee := .value (.func 93), args := #[.tmp 8], argTypes := #[58] }, none⟩,
    ⟨some 5, .assign (.tmp 9), none⟩])
  (.seq
  (.seq
  (.reg [
    ⟨some 10, .move (.tmp 1), none⟩,
    ⟨some 11, .binOp .gtr 3 (.tmp 10) (.const (.int .i64 200)) 3, none⟩])
  (.cond (.tmp 11)
    (.reg [
      ⟨some 12, .move (.tmp 5), none⟩,
      ⟨some 13, .binOp .mul 3 (.tmp 12) (.const (.int .i64 256)) 3, none⟩,
      ⟨some 14, .move (.tmp 0), none⟩,
      ⟨some 15, .call { callee := .value (.func 93), args := #[.tmp 14], argTypes := #[58] }, none⟩,
      ⟨some 16, .binOp .add 3 (.tmp 13) (.tmp 15) 3, none⟩,
      ⟨some 5, .assign (.tmp 16), none⟩])
    .skip))
  (.seq
  (.reg [
    ⟨some 17, .move (.tmp 5), none⟩,
    ⟨some 18, .move (.tmp 1), none⟩,
    ⟨some 19, .binOp .rem 3 (.tmp 17) (.tmp 18) 3, none⟩,
    ⟨some 4, .assign (.tmp 19), none⟩])
  .ret)))))
theorem hd73 : Try.f73.body.map dec = some c73 := by kernel_rfl
theorem e73 {R : AV → AH → Prop} {h : AH} (x0 x1 : AV) (H : h.wf → AI Try.prog c73 (RetQ Try.prog [.tmp 4] R) [x0, x1, un, un, un, un, un, un, un, un, un, un, un, un, un, un, un, un, un, un] h) : AC Try.prog 73 [x0, x1] h R :=
  AC_of' (rs := [.tmp 4]) Try.func73 (by kernel_rfl) hd73 Try.ntmps73 rfl H

/-- (*spec.l1Cur).among -/
def c74 : IC :=
  (.seq
  (.reg [
    ⟨some 4, .assign (.const (.int .i64 0)), none⟩])
  (.seq
  (.reg [
    ⟨some 5, .move (.tmp 1), none⟩,
    ⟨some 6, .move (.tmp 0), none⟩,
    ⟨some 7, .move (.tmp 1), none⟩,
    ⟨some 8, .call { callee := .builtin .len, args := #[.tmp 7], argTypes := #[22] }, none⟩,
    ⟨some 9, .call { callee := .value (.func 73), args := #[.tmp 6, .tmp 8], argTypes := #[58, 3] }, none⟩,
    ⟨some 10, .indexAddr 22 (.tmp 5) (.tmp 9), none⟩,
    ⟨some 11, .load 3 (.tmp 10), none⟩,
    ⟨some 4, .assign (.tmp 11), none⟩])
  .ret))
theorem hd74 : Try.f74.body.map dec = some c74 := by kernel_rfl
theorem e74 {R : AV → AH → Prop} {h : AH} (x0 x1 : AV) (H : h.wf → AI Try.prog c74 (RetQ Try.prog [.tmp 4] R) [x0, x1, un, un, un, un, un, un, un, un, un, un] h) : AC Try.prog 74 [x0, x1] h R :=
  AC_of' (rs := [.tmp 4]) Try.func74 (by kernel_rfl) hd74 Try.ntmps74 rfl H

noncomputable def rg32_0 : Array Oper := rawAt Try.f32 0
/-- spec.DrawIsStarChain -/
noncomputable def c32 : IC :=
  (.seq
  (.reg [
    ⟨some 2, .assign (.const (.slice none 0 0)), none⟩])
  (.seq
  (.reg [
    ⟨some 7, .move (.tmp 0), none⟩,
    ⟨some 8, .build 61 #[(0, .tmp 7)], none⟩,
    ⟨some 9, .box 61 (.tmp 8), none⟩,
    ⟨some 3, .assign (.tmp 9), none⟩])
  (.seq
  (.reg [
    ⟨some 10, .buildSlice 22 1 #[(0, .const (.int .i64 1))], none⟩,
    ⟨some 4, .assign (.tmp 10), none⟩])
  (.seq
  (.seq
  (.reg [
    ⟨some 11, .move (.tmp 3), none⟩,
    ⟨some 12, .move (.tmp 3), none⟩,
    ⟨some 13, .buildSlice 22 3 #[(0, .const (.int .i64 4)), (1, .const (.int .i64 8)), (2, .const (.int .i64 14))], none⟩,
    ⟨some 14, .call { callee := .value (.func 74), args := #[.tmp 12, .tmp 13], argTypes := #[58, 22] }, none⟩,
    ⟨some 15, .call { callee := .value (.func 73), args := #[.tmp 11, .tmp 14], argTypes := #[58, 3] }, none⟩,
    ⟨some 5, .assign (.tmp 15), none⟩])
  (.block 0
  (.loop
    (.seq
    (.seq
    (.reg [
      ⟨some 16, .move (.tmp 5), none⟩,
      ⟨some 17, .binOp .gtr 3 (.tmp 16) (.const (.int .i64 0)) 3, none⟩])
    (.cond (.tmp 17)
      .skip
      (.exit 0)))
    (.seq
    (.block 1
    (.seq
    (.reg [
      ⟨some 20, .move (.tmp 4), none⟩,
      ⟨some 21, .move (.tmp 4), none⟩,
      ⟨some 22, .call { callee := .builtin .len, args := #[.tmp 21], argTypes := #[22] }, none⟩,
      ⟨some 23, .binOp .sub 3 (.tmp 22) (.const (.int .i64 1)) 3, none⟩,
      ⟨some 24, .indexAddr 22 (.tmp 20) (.tmp 23), none⟩,
      ⟨some 25, .load 3 (.tmp 24), none⟩,
      ⟨some 6, .assign (.tmp 25), none⟩])
    (.reg [
      ⟨some 26, .move (.tmp 4), none⟩,
      ⟨some 27, .move (.tmp 6), none⟩,
      ⟨some 28, .move (.tmp 4), none⟩,
      ⟨some 29, .move (.tmp 3), none⟩,
      ⟨some 30, .move (.tmp 4), none⟩,
      ⟨some 31, .call { callee := .builtin .len, args := #[.tmp 30], argTypes := #[22] }, none⟩,
      ⟨some 32, .call { callee := .value (.func 73), args := #[.tmp 29, .tmp 31], argTypes := #[58, 3] }, none⟩,
      ⟨some 33, .indexAddr 22 (.tmp 28) (.tmp 32), none⟩,
      ⟨some 34, .load 3 (.tmp 33), none⟩,
      ⟨some 35, .binOp .add 3 (.tmp 27) (.tmp 34) 3, none⟩,
      ⟨some 36, .buildSlice 22 1 #[(0, .tmp 35)], none⟩,
      ⟨some 37, .call { callee := .builtin .append, args := #[.tmp 26, .tmp 36], argTypes := #[22, 22] }, none⟩,
      ⟨some 4, .assign (.tmp 37), none⟩])))
    (.reg [
      ⟨some 18, .move (.tmp 5), none⟩,
      ⟨some 19, .binOp .sub 3 (.tmp 18) (.const (.int .i64 1)) 3, none⟩,
      ⟨some 5, .assign (.tmp 19), none⟩]))))))
  (.seq
  (.seq
  (.reg [
    ⟨some 38, .move (.tmp 3), none⟩,
    ⟨some 39, .call { callee := .value (.func 73), args := #[.tmp 38, .const (.int .i64 10)], argTypes := #[58, 3] }, none⟩])
  (.block 2
  (.seq
  (.reg [
    ⟨some 41, .binOp .eql 3 (.tmp 39) (.const (.int .i64 0)) 3, none⟩,
    ⟨some 40, .assign (.tmp 41), none⟩])
  (.cond (.tmp 40)
    (.reg [
      ⟨some 42, .move (.tmp 4), none⟩,
      ⟨some 43, .move (.tmp 3), none⟩,
      ⟨some 44, .move (.tmp 4), none⟩,
      ⟨some 45, .call { callee := .builtin .len, args := #[.tmp 44], argTypes := #[22] }, none⟩,
      ⟨some 46, .call { callee := .value (.func 73), args := #[.tmp 43, .tmp 45], argTypes := #[58, 3] }, none⟩,
      ⟨some 47, .move (.tmp 3), none⟩,
      ⟨some 48, .buildSlice 22 6 #[(0, .const (.int .i64 0)), (1, .const (.int .i64 1)), (2, .const (.int .i64 2)), (3, .const (.int .i64 3)), (4, .const (.int .i64 (-1))), (5, .const (.int .i64 1000001))], none⟩,
      ⟨some 49, .call { callee := .value (.func 74), args := #[.tmp 47, .tmp 48], argTypes := #[58, 22] }, none⟩,
      ⟨some 50, .indexAddr 22 (.tmp 42) (.tmp 46), none⟩,
      ⟨none, .store 3 (.tmp 50) (.tmp 49), none⟩])
    (.seq
    (.reg [
      ⟨some 52, .binOp .eql 3 (.tmp 39) (.const (.int .i64 1)) 3, none⟩,
      ⟨some 51, .assign (.tmp 52), none⟩])
    (.cond (.tmp 51)
      (.raw (.region 12 rg32_0 true))
      (.seq
      (.reg [
        ⟨some 66, .binOp .eql 3 (.tmp 39) (.const (.int .i64 2)) 3, none⟩,
        ⟨some 65, .assign (.tmp 66), none⟩])
      (.cond (.tmp 65)
        (.block 3
        (.loop
          (.seq
          (.seq
          (.reg [
            ⟨some 67, .move (.tmp 4), none⟩,
            ⟨some 68, .call { callee := .builtin .len, args := #[.tmp 67], argTypes := #[22] }, none⟩,
            ⟨some 69, .move (.tmp 3), none⟩,
            ⟨some 70, .call { callee := .value (.func 73), args := #[.tmp 69, .const (.int .i64 2)], argTypes := #[58, 3] }, none⟩,
            ⟨some 71, .binOp .add 3 (.const (.int .i64 41)) (.tmp 70) 3, none⟩,
            ⟨some 72, .binOp .lss 3 (.tmp 68) (.tmp 71) 3, none⟩])
          (.cond (.tmp 72)
            .skip
            (.exit 3)))
          (.block 4
          (.reg [
            ⟨some 73, .move (.tmp 4), none⟩,
            ⟨some 74, .move (.tmp 4), none⟩,
            ⟨some 75, .move (.tmp 4), none⟩,
            ⟨some 76, .call { callee := .builtin .len, args := #[.tmp 75], argTypes := #[22] }, none⟩,
            ⟨some 77, .binOp .sub 3 (.tmp 76) (.const (.int .i64 1)) 3, none⟩,
            ⟨some 78, .indexAddr 22 (.tmp 74) (.tmp 77), none⟩,
            ⟨some 79, .load 3 (.tmp 78), none⟩,
            ⟨some 80, .binOp .add 3 (.tmp 79) (.const (.int .i64 1)) 3, none⟩,
            ⟨some 81, .buildSlice 22 1 #[(0, .tmp 80)], none⟩,
            ⟨some 82, .call { callee := .builtin .append, args := #[.tmp 73, .tmp 81], argTypes := #[22, 22] }, none⟩,
            ⟨some 4, .assign (.tmp 82), none⟩])))))
        (.seq
        (.reg [
          ⟨some 84, .binOp .eql 3 (.tmp 39) (.const (.int .i64 3)) 3, none⟩,
          ⟨some 83, .assign (.tmp 84), none⟩])
        (.cond (.tmp 83)
          (.reg [
            ⟨some 4, .assign (.const (.slice none 0 0)), none⟩])
          .skip))))))))))
  (.seq
  (.reg [
    ⟨some 85, .move (.tmp 4), none⟩,
    ⟨some 2, .assign (.tmp 85), none⟩])
  .ret))))))
theorem hd32 : Try.f32.body.map dec = some c32 := by kernel_rfl
theorem e32 {R : AV → AH → Prop} {h : AH} (x0 : AV) (H : h.wf → AI Try.prog c32 (RetQ Try.prog [.tmp 2] R) [x0, un, un, un, un, un, un, un, un, un, un, un, un, un, un, un, un, un, un, un, un, un, un, un, un, un, un, un, un, un, un, un, un, un, un, un, un, un, un, un, un, un, un, un, un, un, un, un, un, un, un, un, un, un, un, un, un, un, un, un, un, un, un, un, un, un, un, un, un, un, un, un, un, un, un, un, un, un, un, un, un, un, un, un, un, un] h) : AC Try.prog 32 [x0] h R :=
  AC_of' (rs := [.tmp 2]) Try.func32 (by kernel_rfl) hd32 Try.ntmps32 rfl H
theorem dz32_0 {h0 : AH} {L : List It} {Q : Exit → List AV → List It → Prop} {a : List AV} {id : Nat} (H : LX Try.prog ⟨[11], []⟩ h0 L L (.c (⟨some 53, .move (.tmp 4), none⟩, .p) <| .c (⟨some 54, .move (.tmp 4), none⟩, .p) <| .c (⟨some 55, .move (.tmp 4), none⟩, .p) <| .c (⟨some 56, .call { callee := .builtin .len, args := #[.tmp 55], argTypes := #[22] }, none⟩, .p) <| .c (⟨some 57, .binOp .sub 3 (.tmp 56) (.const (.int .i64 1)) 3, none⟩, .p) <| .c (⟨some 58, .indexAddr 22 (.tmp 54) (.tmp 57), none⟩, .p) <| .c (⟨some 59, .load 3 (.tmp 58), none⟩, .l) <| .c (⟨some 60, .move (.tmp 3), none⟩, .p) <| .c (⟨some 61, .call { callee := .value (.func 73), args := #[.tmp 60, .const (.int .i64 9)], argTypes := #[58, 3] }, none⟩, .e) <| .c (⟨some 62, .binOp .add 3 (.tmp 59) (.tmp 61) 3, none⟩, .p) <| .c (⟨some 63, .buildSlice 22 1 #[(0, .tmp 62)], none⟩, .e) <| .c (⟨some 64, .call { callee := .builtin .append, args := #[.tmp 53, .tmp 63], argTypes := #[22, 22] }, none⟩, .f) <| .c (⟨some 4, .assign (.tmp 64), none⟩, .p) <| .n) Q a) : LI Try.prog h0 L (.raw (.region id rg32_0 true)) Q a :=
  LI_draw (.c (0, .p) <| .c (1, .p) <| .c (2, .p) <| .c (3, .p) <| .c (4, .p) <| .c (5, .p) <| .c (6, .l) <| .c (7, .p) <| .c (8, .e) <| .c (9, .p) <| .c (10, .e) <| .c (11, .f) <| .c (12, .p) <| .n) [11] (by kernel_rfl) (by kernel_rfl) (by kernel_rfl) H
theorem db32_0 {h0 : AH} {L : List It} {Q : Exit → List AV → List It → Prop} {a : List AV} {id : Nat} (K : List (Nat × List AV)) (hK : ∀ x ∈ K, It.pt x.1 x.2 ∈ L) (H : LX Try.prog ⟨[8, 10, 11], K⟩ h0 L L (.c (⟨some 53, .move (.tmp 4), none⟩, .p) <| .c (⟨some 54, .move (.tmp 4), none⟩, .p) <| .c (⟨some 55, .move (.tmp 4), none⟩, .p) <| .c (⟨some 56, .call { callee := .builtin .len, args := #[.tmp 55], argTypes := #[22] }, none⟩, .p) <| .c (⟨some 57, .binOp .sub 3 (.tmp 56) (.const (.int .i64 1)) 3, none⟩, .p) <| .c (⟨some 58, .indexAddr 22 (.tmp 54) (.tmp 57), none⟩, .p) <| .c (⟨some 59, .load 3 (.tmp 58), none⟩, .kp) <| .c (⟨some 60, .move (.tmp 3), none⟩, .p) <| .c (⟨some 61, .call { callee := .value (.func 73), args := #[.tmp 60, .const (.int .i64 9)], argTypes := #[58, 3] }, none⟩, .f) <| .c (⟨some 62, .binOp .add 3 (.tmp 59) (.tmp 61) 3, none⟩, .p) <| .c (⟨some 63, .buildSlice 22 1 #[(0, .tmp 62)], none⟩, .f) <| .c (⟨some 64, .call { callee := .builtin .append, args := #[.tmp 53, .tmp 63], argTypes := #[22, 22] }, none⟩, .f) <| .c (⟨some 4, .assign (.tmp 64), none⟩, .p) <| .n) Q a) : LI Try.prog h0 L (.raw (.region id rg32_0 true)) Q a :=
  LI_drawK (.c (0, .p) <| .c (1, .p) <| .c (2, .p) <| .c (3, .p) <| .c (4, .p) <| .c (5, .p) <| .c (6, .kp) <| .c (7, .p) <| .c (8, .f) <| .c (9, .p) <| .c (10, .f) <| .c (11, .f) <| .c (12, .p) <| .n) [8, 10, 11] K hK (by kernel_rfl) (by kernel_rfl) (by kernel_rfl) H
theorem de32_0 {h0 : AH} {L : List It} {Q : Exit → List AV → List It → Prop} {a : List AV} {id : Nat} (H : LX Try.prog ⟨[8, 10, 11], []⟩ h0 L L (.c (⟨some 53, .move (.tmp 4), none⟩, .p) <| .c (⟨some 54, .move (.tmp 4), none⟩, .p) <| .c (⟨some 55, .move (.tmp 4), none⟩, .p) <| .c (⟨some 56, .call { callee := .builtin .len, args := #[.tmp 55], argTypes := #[22] }, none⟩, .p) <| .c (⟨some 57, .binOp .sub 3 (.tmp 56) (.const (.int .i64 1)) 3, none⟩, .p) <| .c (⟨some 58, .indexAddr 22 (.tmp 54) (.tmp 57), none⟩, .p) <| .c (⟨some 60, .move (.tmp 3), none⟩, .p) <| .t (.c (⟨some 59, .load 3 (.tmp 58), none⟩, .e) <| .c (⟨some 61, .call { callee := .value (.func 73), args := #[.tmp 60, .const (.int .i64 9)], argTypes := #[58, 3] }, none⟩, .f) <| .c (⟨some 62, .binOp .add 3 (.tmp 59) (.tmp 61) 3, none⟩, .p) <| .c (⟨some 63, .buildSlice 22 1 #[(0, .tmp 62)], none⟩, .f) <| .c (⟨some 64, .call { callee := .builtin .append, args := #[.tmp 53, .tmp 63], argTypes := #[22, 22] }, none⟩, .f) <| .c (⟨some 4, .assign (.tmp 64), none⟩, .p) <| .n) (.c (⟨some 61, .call { callee := .value (.func 73), args := #[.tmp 60, .const (.int .i64 9)], argTypes := #[58, 3] }, none⟩, .f) <| .c (⟨some 59, .load 3 (.tmp 58), none⟩, .e) <| .c (⟨some 62, .binOp .add 3 (.tmp 59) (.tmp 61) 3, none⟩, .p) <| .c (⟨some 63, .buildSlice 22 1 #[(0, .tmp 62)], none⟩, .f) <| .c (⟨some 64, .call { callee := .builtin .append, args := #[.tmp 53, .tmp 63], argTypes := #[22, 22] }, none⟩, .f) <| .c (⟨some 4, .assign (.tmp 64), none⟩, .p) <| .n)) Q a) : LI Try.prog h0 L (.raw (.region id rg32_0 true)) Q a :=
  LI_draw (.c (0, .p) <| .c (1, .p) <| .c (2, .p) <| .c (3, .p) <| .c (4, .p) <| .c (5, .p) <| .c (7, .p) <| .t (.c (6, .e) <| .c (8, .f) <| .c (9, .p) <| .c (10, .f) <| .c (11, .f) <| .c (12, .p) <| .n) (.c (8, .f) <| .c (6, .e) <| .c (9, .p) <| .c (10, .f) <| .c (11, .f) <| .c (12, .p) <| .n)) [8, 10, 11] (by kernel_rfl) (by kernel_rfl) (by kernel_rfl) H
theorem dr32_0 (m : Nat) {Q : Exit → List AV → AH → Prop} {a : List AV} {h : AH} {id : Nat} (H : AX Try.prog m h [(⟨some 53, .move (.tmp 4), none⟩, true),
  (⟨some 54, .move (.tmp 4), none⟩, true),
  (⟨some 55, .move (.tmp 4), none⟩, true),
  (⟨some 56, .call { callee := .builtin .len, args := #[.tmp 55], argTypes := #[22] }, none⟩, true),
  (⟨some 57, .binOp .sub 3 (.tmp 56) (.const (.int .i64 1)) 3, none⟩, true),
  (⟨some 58, .indexAddr 22 (.tmp 54) (.tmp 57), none⟩, true),
  (⟨some 59, .load 3 (.tmp 58), none⟩, true),
  (⟨some 60, .move (.tmp 3), none⟩, true),
  (⟨some 61, .call { callee := .value (.func 73), args := #[.tmp 60, .const (.int .i64 9)], argTypes := #[58, 3] }, none⟩, false),
  (⟨some 62, .binOp .add 3 (.tmp 59) (.tmp 61) 3, none⟩, true),
  (⟨some 63, .buildSlice 22 1 #[(0, .tmp 62)], none⟩, false),
  (⟨some 64, .call { callee := .builtin .append, args := #[.tmp 53, .tmp 63], argTypes := #[22, 22] }, none⟩, false),
  (⟨some 4, .assign (.tmp 64), none⟩, true)] (fun a' h' => Q .normal a' h') a h) : AI Try.prog (.raw (.region id rg32_0 true)) Q a h :=
  AI_draw [(0, true), (1, true), (2, true), (3, true), (4, true), (5, true), (6, true), (7, true), (8, false), (9, true), (10, false), (11, false), (12, true)] m (by kernel_rfl) (by kernel_rfl) (by kernel_rfl) H

/-- impl.in -/
def c65 : IC :=
  (.seq
  (.reg [
    ⟨some 6, .assign (.const (.bool false)), none⟩])
  (.seq
  (.reg [
    ⟨some 7, .move (.tmp 0), none⟩,
    ⟨some 8, .move (.tmp 1), none⟩,
    ⟨some 9, .binOp .geq 3 (.tmp 7) (.tmp 8) 3, none⟩,
    ⟨some 10, .move (.tmp 9), none⟩,
    ⟨some 11, .move (.tmp 0), some (10, true)⟩,
    ⟨some 12, .move (.tmp 2), some (10, true)⟩,
    ⟨some 13, .binOp .leq 3 (.tmp 11) (.tmp 12) 3, some (10, true)⟩,
    ⟨some 14, .pick (.tmp 10) (.tmp 13) (.const (.bool false)), none⟩,
    ⟨some 6, .assign (.tmp 14), none⟩])
  .ret))
theorem hd65 : Try.f65.body.map dec = some c65 := by kernel_rfl
theorem e65 {R : AV → AH → Prop} {h : AH} (x0 x1 x2 : AV) (H : h.wf → AI Try.prog c65 (RetQ Try.prog [.tmp 6] R) [x0, x1, x2, un, un, un, un, un, un, un, un, un, un, un, un] h) : AC Try.prog 65 [x0, x1, x2] h R :=
  AC_of' (rs := [.tmp 6]) Try.func65 (by kernel_rfl) hd65 Try.ntmps65 rfl H

/-- slices.Index[[]int,int] -/
def c94 : IC :=
  (.seq
  (.reg [
    ⟨some 4, .assign (.const (.int .i64 0)), none⟩])
  (.seq
  (.seq
  (.reg [
    ⟨some 6, .move (.tmp 0), none⟩,
    ⟨some 7, .call { callee := .builtin .len, args := #[.tmp 6], argTypes := #[22] }, none⟩,
    ⟨some 8, .move (.const (.int .i64 0)), none⟩])
  (.block 0
  (.loop
    (.seq
    (.reg [
      ⟨some 9, .binOp .lss 3 (.tmp 8) (.tmp 7) 3, none⟩])
    (.seq
    (.cond (.tmp 9)
      .skip
      (.exit 0))
    (.seq
    (.block 1
    (.seq
    (.reg [
      ⟨some 10, .move (.tmp 8), none⟩,
      ⟨some 5, .assign (.tmp 10), none⟩])
    (.seq
    (.reg [
      ⟨some 11, .move (.tmp 1), none⟩,
      ⟨some 12, .move (.tmp 0), none⟩,
      ⟨some 13, .move (.tmp 5), none⟩,
      ⟨some 14, .indexAddr 22 (.tmp 12) (.tmp 13), none⟩,
      ⟨some 15, .load 3 (.tmp 14), none⟩,
      ⟨some 16, .binOp .eql 3 (.tmp 11) (.tmp 15) 3, none⟩])
    (.cond (.tmp 16)
      (.seq
      (.reg [
        ⟨some 17, .move (.tmp 5), none⟩,
        ⟨some 4, .assign (.tmp 17), none⟩])
      .ret)
      .skip))))
    (.reg [
      ⟨some 18, .binOp .add 3 (.tmp 8) (.const (.int .i64 1)) 3, none⟩,
      ⟨some 8, .move (.tmp 18), none⟩])))))))
  (.seq
  (.reg [
    ⟨some 4, .assign (.const (.int .i64 (-1))), none⟩])
  .ret)))
theorem hd94 : Try.f94.body.map dec = some c94 := by kernel_rfl
theorem e94 {R : AV → AH → Prop} {h : AH} (x0 x1 : AV) (H : h.wf → AI Try.prog c94 (RetQ Try.prog [.tmp 4] R) [x0, x1, un, un, un, un, un, un, un, un, un, un, un, un, un, un, un, un, un] h) : AC Try.prog 94 [x0, x1] h R :=
  AC_of' (rs := [.tmp 4]) Try.func94 (by kernel_rfl) hd94 Try.ntmps94 rfl H

/-- slices.Contains[[]int,int] -/
def c75 : IC :=
  (.seq
  (.reg [
    ⟨some 4, .assign (.const (.bool false)), none⟩])
  (.seq
  (.reg [
    ⟨some 5, .move (.tmp 0), none⟩,
    ⟨some 6, .move (.tmp 1), none⟩,
    ⟨some 7, .call { callee := .value (.func 94), args := #[.tmp 5, .tmp 6], argTypes := #[22, 3] }, none⟩,
    ⟨some 8, .binOp .geq 3 (.tmp 7) (.const (.int .i64 0)) 3, none⟩,
    ⟨some 4, .assign (.tmp 8), none⟩])
  .ret))
theorem hd75 : Try.f75.body.map dec = some c75 := by kernel_rfl
theorem e75 {R : AV → AH → Prop} {h : AH} (x0 x1 : AV) (H : h.wf → AI Try.prog c75 (RetQ Try.prog [.tmp 4] R) [x0, x1, un, un, un, un, un, un, un] h) : AC Try.prog 75 [x0, x1] h R :=
  AC_of' (rs := [.tmp 4]) Try.func75 (by kernel_rfl) hd75 Try.ntmps75 rfl H

noncomputable def rg33_0 : Array Oper := rawAt Try.f33 0
-- NO ORDER
/-- impl.IsStarChain -/
noncomputable def c33 : IC :=
  (.seq
  (.reg [
    ⟨some 2, .assign (.const (.bool false)), none⟩])
  (.seq
  (.seq
  (.reg [
    ⟨some 4, .move (.tmp 0), none⟩,
    ⟨some 5, .call { callee := .builtin .len, args := #[.tmp 4], argTypes := #[22] }, none⟩,
    ⟨some 6, .call { callee := .value (.func 65), args := #[.tmp 5, .const (.int .i64 1), .const (.int .i64 41)], argTypes := #[3, 3, 3] }, none⟩,
    ⟨some 7, .unOp .not 4 (.tmp 6), none⟩,
    ⟨some 8, .move (.tmp 7), none⟩,
    ⟨some 9, .move (.tmp 0), some (8, false)⟩,
    ⟨some 10, .indexAddr 22 (.tmp 9) (.const (.int .i64 0)), some (8, false)⟩,
    ⟨some 11, .load 3 (.tmp 10), some (8, false)⟩,
    ⟨some 12, .binOp .neq 3 (.tmp 11) (.const (.int .i64 1)) 3, some (8, false)⟩,
    ⟨some 13, .pick (.tmp 8) (.const (.bool true)) (.tmp 12), none⟩])
  (.cond (.tmp 13)
    (.seq
    (.reg [
      ⟨some 2, .assign (.const (.bool false)), none⟩])
    .ret)
    .skip))
  (.seq
  (.seq
  (.reg [
    ⟨some 3, .assign (.const (.int .i64 1)), none⟩])
  (.block 0
  (.loop
    (.seq
    (.seq
    (.reg [
      ⟨some 14, .move (.tmp 3), none⟩,
      ⟨some 15, .move (.tmp 0), none⟩,
      ⟨some 16, .call { callee := .builtin .len, args := #[.tmp 15], argTypes := #[22] }, none⟩,
      ⟨some 17, .binOp .lss 3 (.tmp 14) (.tmp 16) 3, none⟩])
    (.cond (.tmp 17)
      .skip
      (.exit 0)))
    (.seq
    (.block 1
    (.seq
    (.raw (.region 6 rg33_0 true))
    (.cond (.tmp 53)
      (.seq
      (.reg [
        ⟨some 2, .assign (.const (.bool false)), none⟩])
      .ret)
      .skip)))
    (.reg [
      ⟨some 18, .move (.tmp 3), none⟩,
      ⟨some 19, .binOp .add 3 (.tmp 18) (.const (.int .i64 1)) 3, none⟩,
      ⟨some 3, .assign (.tmp 19), none⟩]))))))
  (.seq
  (.reg [
    ⟨some 2, .assign (.const (.bool true)), none⟩])
  .ret))))
theorem hd33 : Try.f33.body.map dec = some c33 := by kernel_rfl
theorem e33 {R : AV → AH → Prop} {h : AH} (x0 : AV) (H : h.wf → AI Try.prog c33 (RetQ Try.prog [.tmp 2] R) [x0, un, un, un, un, un, un, un, un, un, un, un, un, un, un, un, un, un, un, un, un, un, un, un, un, un, un, un, un, un, un, un, un, un, un, un, un, un, un, un, un, un, un, un, un, un, un, un, un, un, un, un, un, un] h) : AC Try.prog 33 [x0] h R :=
  AC_of' (rs := [.tmp 2]) Try.func33 (by kernel_rfl) hd33 Try.ntmps33 rfl H
theorem dz33_0 {h0 : AH} {L : List It} {Q : Exit → List AV → List It → Prop} {a : List AV} {id : Nat} (H : LX Try.prog ⟨[], []⟩ h0 L L (.c (⟨some 20, .move (.tmp 0), none⟩, .p) <| .c (⟨some 21, .move (.tmp 3), none⟩, .p) <| .c (⟨some 22, .indexAddr 22 (.tmp 20) (.tmp 21), none⟩, .p) <| .c (⟨some 23, .load 3 (.tmp 22), none⟩, .l) <| .c (⟨some 24, .move (.tmp 0), none⟩, .p) <| .c (⟨some 25, .move (.tmp 3), none⟩, .p) <| .c (⟨some 26, .binOp .sub 3 (.tmp 25) (.const (.int .i64 1)) 3, none⟩, .p) <| .c (⟨some 27, .indexAddr 22 (.tmp 24) (.tmp 26), none⟩, .p) <| .c (⟨some 28, .load 3 (.tmp 27), none⟩, .l) <| .c (⟨some 29, .binOp .leq 3 (.tmp 23) (.tmp 28) 3, none⟩, .p) <| .c (⟨some 30, .move (.tmp 29), none⟩, .p) <| .c (⟨some 31, .move (.tmp 0), some (30, false)⟩, .p) <| .c (⟨some 32, .move (.tmp 3), some (30, false)⟩, .p) <| .c (⟨some 33, .indexAddr 22 (.tmp 31) (.tmp 32), some (30, false)⟩, .p) <| .c (⟨some 34, .load 3 (.tmp 33), some (30, false)⟩, .l) <| .c (⟨some 35, .binOp .gtr 3 (.tmp 34) (.const (.int .i64 1000000)) 3, some (30, false)⟩, .p) <| .c (⟨some 36, .pick (.tmp 30) (.const (.bool true)) (.tmp 35), none⟩, .p) <| .c (⟨some 37, .move (.tmp 36), none⟩, .p) <| .c (⟨some 38, .move (.tmp 0), some (37, false)⟩, .p) <| .c (⟨some 39, .move (.tmp 3), some (37, false)⟩, .p) <| .c (⟨some 40, .slice 22 (.tmp 38) none (some (.tmp 39)) none, some (37, false)⟩, .p) <| .c (⟨some 41, .move (.tmp 0), some (37, false)⟩, .p) <| .c (⟨some 42, .move (.tmp 3), some (37, false)⟩, .p) <| .c (⟨some 43, .indexAddr 22 (.tmp 41) (.tmp 42), some (37, false)⟩, .p) <| .c (⟨some 44, .load 3 (.tmp 43), some (37, false)⟩, .l) <| .c (⟨some 45, .move (.tmp 0), some (37, false)⟩, .p) <| .c (⟨some 46, .move (.tmp 3), some (37, false)⟩, .p) <| .c (⟨some 47, .binOp .sub 3 (.tmp 46) (.const (.int .i64 1)) 3, some (37, false)⟩, .p) <| .c (⟨some 48, .indexAddr 22 (.tmp 45) (.tmp 47), some (37, false)⟩, .p) <| .c (⟨some 49, .load 3 (.tmp 48), some (37, false)⟩, .l) <| .c (⟨some 50, .binOp .sub 3 (.tmp 44) (.tmp 49) 3, some (37, false)⟩, .p) <| .c (⟨some 51, .call { callee := .value (.func 75), args := #[.tmp 40, .tmp 50], argTypes := #[22, 3] }, some (37, false)⟩, .e) <| .c (⟨some 52, .unOp .not 4 (.tmp 51), some (37, false)⟩, .p) <| .c (⟨some 53, .pick (.tmp 37) (.const (.bool true)) (.tmp 52), none⟩, .p) <| .n) Q a) : LI Try.prog h0 L (.raw (.region id rg33_0 true)) Q a :=
  LI_draw (.c (0, .p) <| .c (1, .p) <| .c (2, .p) <| .c (3, .l) <| .c (4, .p) <| .c (5, .p) <| .c (6, .p) <| .c (7, .p) <| .c (8, .l) <| .c (9, .p) <| .c (10, .p) <| .c (11, .p) <| .c (12, .p) <| .c (13, .p) <| .c (14, .l) <| .c (15, .p) <| .c (16, .p) <| .c (17, .p) <| .c (18, .p) <| .c (19, .p) <| .c (20, .p) <| .c (21, .p) <| .c (22, .p) <| .c (23, .p) <| .c (24, .l) <| .c (25, .p) <| .c (26, .p) <| .c (27, .p) <| .c (28, .p) <| .c (29, .l) <| .c (30, .p) <| .c (31, .e) <| .c (32, .p) <| .c (33, .p) <| .n) [] (by kernel_rfl) (by kernel_rfl) (by kernel_rfl) H
theorem dy33_0 {h0 : AH} {L : List It} {Q : Exit → List AV → List It → Prop} {a : List AV} {id : Nat} (H : LX Try.prog ⟨[31], []⟩ h0 L L (.c (⟨some 20, .move (.tmp 0), none⟩, .p) <| .c (⟨some 21, .move (.tmp 3), none⟩, .p) <| .c (⟨some 22, .indexAddr 22 (.tmp 20) (.tmp 21), none⟩, .p) <| .c (⟨some 23, .load 3 (.tmp 22), none⟩, .l) <| .c (⟨some 24, .move (.tmp 0), none⟩, .p) <| .c (⟨some 25, .move (.tmp 3), none⟩, .p) <| .c (⟨some 26, .binOp .sub 3 (.tmp 25) (.const (.int .i64 1)) 3, none⟩, .p) <| .c (⟨some 27, .indexAddr 22 (.tmp 24) (.tmp 26), none⟩, .p) <| .c (⟨some 28, .load 3 (.tmp 27), none⟩, .l) <| .c (⟨some 29, .binOp .leq 3 (.tmp 23) (.tmp 28) 3, none⟩, .p) <| .c (⟨some 30, .move (.tmp 29), none⟩, .p) <| .c (⟨some 31, .move (.tmp 0), some (30, false)⟩, .p) <| .c (⟨some 32, .move (.tmp 3), some (30, false)⟩, .p) <| .c (⟨some 33, .indexAddr 22 (.tmp 31) (.tmp 32), some (30, false)⟩, .p) <| .c (⟨some 34, .load 3 (.tmp 33), some (30, false)⟩, .l) <| .c (⟨some 35, .binOp .gtr 3 (.tmp 34) (.const (.int .i64 1000000)) 3, some (30, false)⟩, .p) <| .c (⟨some 36, .pick (.tmp 30) (.const (.bool true)) (.tmp 35), none⟩, .p) <| .c (⟨some 37, .move (.tmp 36), none⟩, .p) <| .c (⟨some 38, .move (.tmp 0), some (37, false)⟩, .p) <| .c (⟨some 39, .move (.tmp 3), some (37, false)⟩, .p) <| .c (⟨some 40, .slice 22 (.tmp 38) none (some (.tmp 39)) none, some (37, false)⟩, .p) <| .c (⟨some 41, .move (.tmp 0), some (37, false)⟩, .p) <| .c (⟨some 42, .move (.tmp 3), some (37, false)⟩, .p) <| .c (⟨some 43, .indexAddr 22 (.tmp 41) (.tmp 42), some (37, false)⟩, .p) <| .c (⟨some 44, .load 3 (.tmp 43), some (37, false)⟩, .l) <| .c (⟨some 45, .move (.tmp 0), some (37, false)⟩, .p) <| .c (⟨some 46, .move (.tmp 3), some (37, false)⟩, .p) <| .c (⟨some 47, .binOp .sub 3 (.tmp 46) (.const (.int .i64 1)) 3, some (37, false)⟩, .p) <| .c (⟨some 48, .indexAddr 22 (.tmp 45) (.tmp 47), some (37, false)⟩, .p) <| .c (⟨some 49, .load 3 (.tmp 48), some (37, false)⟩, .l) <| .c (⟨some 50, .binOp .sub 3 (.tmp 44) (.tmp 49) 3, some (37, false)⟩, .p) <| .c (⟨some 51, .call { callee := .value (.func 75), args := #[.tmp 40, .tmp 50], argTypes := #[22, 3] }, some (37, false)⟩, .f) <| .c (⟨some 52, .unOp .not 4 (.tmp 51), some (37, false)⟩, .p) <| .c (⟨some 53, .pick (.tmp 37) (.const (.bool true)) (.tmp 52), none⟩, .p) <| .n) Q a) : LI Try.prog h0 L (.raw (.region id rg33_0 true)) Q a :=
  LI_draw (.c (0, .p) <| .c (1, .p) <| .c (2, .p) <| .c (3, .l) <| .c (4, .p) <| .c (5, .p) <| .c (6, .p) <| .c (7, .p) <| .c (8, .l) <| .c (9, .p) <| .c (10, .p) <| .c (11, .p) <| .c (12, .p) <| .c (13, .p) <| .c (14, .l) <| .c (15, .p) <| .c (16, .p) <| .c (17, .p) <| .c (18, .p) <| .c (19, .p) <| .c (20, .p) <| .c (21, .p) <| .c (22, .p) <| .c (23, .p) <| .c (24, .l) <| .c (25, .p) <| .c (26, .p) <| .c (27, .p) <| .c (28, .p) <| .c (29, .l) <| .c (30, .p) <| .c (31, .f) <| .c (32, .p) <| .c (33, .p) <| .n) [31] (by kernel_rfl) (by kernel_rfl) (by kernel_rfl) H

/-- spec.l1In -/
def c62 : IC :=
  (.seq
  (.reg [
    ⟨some 6, .assign (.const (.bool false)), none⟩])
  (.seq
  (.reg [
    ⟨some 7, .move (.tmp 0), none⟩,
    ⟨some 8, .move (.tmp 1), none⟩,
    ⟨some 9, .binOp .geq 3 (.tmp 7) (.tmp 8) 3, none⟩,
    ⟨some 10, .move (.tmp 9), none⟩,
    ⟨some 11, .move (.tmp 0), some (10, true)⟩,
    ⟨some 12, .move (.tmp 2), some (10, true)⟩,
    ⟨some 13, .binOp .leq 3 (.tmp 11) (.tmp 12) 3, some (10, true)⟩,
    ⟨some 14, .pick (.tmp 10) (.tmp 13) (.const (.bool false)), none⟩,
    ⟨some 6, .assign (.tmp 14), none⟩])
  .ret))
theorem hd62 : Try.f62.body.map dec = some c62 := by kernel_rfl
theorem e62 {R : AV → AH → Prop} {h : AH} (x0 x1 x2 : AV) (H : h.wf → AI Try.prog c62 (RetQ Try.prog [.tmp 6] R) [x0, x1, x2, un, un, un, un, un, un, un, un, un, un, un, un] h) : AC Try.prog 62 [x0, x1, x2] h R :=
  AC_of' (rs := [.tmp 6]) Try.func62 (by kernel_rfl) hd62 Try.ntmps62 rfl H

/-- spec.l1All -/
def c76 : IC :=
  (.seq
  (.reg [
    ⟨some 6, .assign (.const (.bool false)), none⟩])
  (.seq
  (.seq
  (.reg [
    ⟨some 9, .move (.tmp 0), none⟩,
    ⟨some 10, .call { callee := .builtin .len, args := #[.tmp 9], argTypes := #[22] }, none⟩,
    ⟨some 11, .move (.const (.int .i64 0)), none⟩])
  (.block 0
  (.loop
    (.seq
    (.reg [
      ⟨some 12, .binOp .lss 3 (.tmp 11) (.tmp 10) 3, none⟩])
    (.seq
    (.cond (.tmp 12)
      .skip
      (.exit 0))
    (.seq
    (.block 1
    (.seq
    (.reg [
      ⟨some 13, .indexAddr 22 (.tmp 9) (.tmp 11), none⟩,
      ⟨some 14, .load 3 (.tmp 13), none⟩,
      ⟨some 8, .assign (.tmp 14), none⟩])
    (.seq
    (.reg [
      ⟨some 15, .move (.tmp 8), none⟩,
      ⟨some 16, .move (.tmp 1), none⟩,
      ⟨some 17, .move (.tmp 2), none⟩,
      ⟨some 18, .call { callee := .value (.func 62), args := #[.tmp 15, .tmp 16, .tmp 17], argTypes := #[3, 3, 3] }, none⟩,
      ⟨some 19, .unOp .not 4 (.tmp 18), none⟩])
    (.cond (.tmp 19)
      (.seq
      (.reg [
        ⟨some 6, .assign (.const (.bool false)), none⟩])
      .ret)
      .skip))))
    (.reg [
      ⟨some 20, .binOp .add 3 (.tmp 11) (.const (.int .i64 1)) 3, none⟩,
      ⟨some 11, .move (.tmp 20), none⟩])))))))
  (.seq
  (.reg [
    ⟨some 6, .assign (.const (.bool true)), none⟩])
  .ret)))
theorem hd76 : Try.f76.body.map dec = some c76 := by kernel_rfl
theorem e76 {R : AV → AH → Prop} {h : AH} (x0 x1 x2 : AV) (H : h.wf → AI Try.prog c76 (RetQ Try.prog [.tmp 6] R) [x0, x1, x2, un, un, un, un, un, un, un, un, un, un, un, un, un, un, un, un, un, un] h) : AC Try.prog 76 [x0, x1, x2] h R :=
  AC_of' (rs := [.tmp 6]) Try.func76 (by kernel_rfl) hd76 Try.ntmps76 rfl H

/-- spec.l1Has -/
def c90 : IC :=
  (.seq
  (.reg [
    ⟨some 4, .assign (.const (.bool false)), none⟩])
  (.seq
  (.seq
  (.reg [
    ⟨some 7, .move (.tmp 0), none⟩,
    ⟨some 8, .call { callee := .builtin .len, args := #[.tmp 7], argTypes := #[22] }, none⟩,
    ⟨some 9, .move (.const (.int .i64 0)), none⟩])
  (.block 0
  (.loop
    (.seq
    (.reg [
      ⟨some 10, .binOp .lss 3 (.tmp 9) (.tmp 8) 3, none⟩])
    (.seq
    (.cond (.tmp 10)
      .skip
      (.exit 0))
    (.seq
    (.block 1
    (.seq
    (.reg [
      ⟨some 11, .indexAddr 22 (.tmp 7) (.tmp 9), none⟩,
      ⟨some 12, .load 3 (.tmp 11), none⟩,
      ⟨some 6, .assign (.tmp 12), none⟩])
    (.seq
    (.reg [
      ⟨some 13, .move (.tmp 6), none⟩,
      ⟨some 14, .move (.tmp 1), none⟩,
      ⟨some 15, .binOp .eql 3 (.tmp 13) (.tmp 14) 3, none⟩])
    (.cond (.tmp 15)
      (.seq
      (.reg [
        ⟨some 4, .assign (.const (.bool true)), none⟩])
      .ret)
      .skip))))
    (.reg [
      ⟨some 16, .binOp .add 3 (.tmp 9) (.const (.int .i64 1)) 3, none⟩,
      ⟨some 9, .move (.tmp 16), none⟩])))))))
  (.seq
  (.reg [
    ⟨some 4, .assign (.const (.bool false)), none⟩])
  .ret)))
theorem hd90 : Try.f90.body.map dec = some c90 := by kernel_rfl
theorem e90 {R : AV → AH → Prop} {h : AH} (x0 x1 : AV) (H : h.wf → AI Try.prog c90 (RetQ Try.prog [.tmp 4] R) [x0, x1, un, un, un, un, un, un, un, un, un, un, un, un, un, un, un] h) : AC Try.prog 90 [x0, x1] h R :=
  AC_of' (rs := [.tmp 4]) Try.func90 (by kernel_rfl) hd90 Try.ntmps90 rfl H

noncomputable def rg77_0 : Array Oper := rawAt Try.f77 0
/-- spec.shChain -/
noncomputable def c77 : IC :=
  (.seq
  (.reg [
    ⟨some 2, .assign (.const (.bool false)), none⟩])
  (.seq
  (.seq
  (.reg [
    ⟨some 4, .move (.tmp 0), none⟩,
    ⟨some 5, .call { callee := .builtin .len, args := #[.tmp 4], argTypes := #[22] }, none⟩,
    ⟨some 6, .binOp .eql 3 (.tmp 5) (.const (.int .i64 0)) 3, none⟩,
    ⟨some 7, .move (.tmp 6), none⟩,
    ⟨some 8, .move (.tmp 0), some (7, false)⟩,
    ⟨some 9, .indexAddr 22 (.tmp 8) (.const (.int .i64 0)), some (7, false)⟩,
    ⟨some 10, .load 3 (.tmp 9), some (7, false)⟩,
    ⟨some 11, .binOp .neq 3 (.tmp 10) (.const (.int .i64 1)) 3, some (7, false)⟩,
    ⟨some 12, .pick (.tmp 7) (.const (.bool true)) (.tmp 11), none⟩])
  (.cond (.tmp 12)
    (.seq
    (.reg [
      ⟨some 2, .assign (.const (.bool false)), none⟩])
    .ret)
    .skip))
  (.seq
  (.seq
  (.reg [
    ⟨some 3, .assign (.const (.int .i64 1)), none⟩])
  (.block 0
  (.loop
    (.seq
    (.seq
    (.reg [
      ⟨some 13, .move (.tmp 3), none⟩,
      ⟨some 14, .move (.tmp 0), none⟩,
      ⟨some 15, .call { callee := .builtin .len, args := #[.tmp 14], argTypes := #[22] }, none⟩,
      ⟨some 16, .binOp .lss 3 (.tmp 13) (.tmp 15) 3, none⟩])
    (.cond (.tmp 16)
      .skip
      (.exit 0)))
    (.seq
    (.block 1
    (.seq
    (.raw (.region 6 rg77_0 true))
    (.cond (.tmp 33)
      (.seq
      (.reg [
        ⟨some 2, .assign (.const (.bool false)), none⟩])
      .ret)
      .skip)))
    (.reg [
      ⟨some 17, .move (.tmp 3), none⟩,
      ⟨some 18, .binOp .add 3 (.tmp 17) (.const (.int .i64 1)) 3, none⟩,
      ⟨some 3, .assign (.tmp 18), none⟩]))))))
  (.seq
  (.reg [
    ⟨some 2, .assign (.const (.bool true)), none⟩])
  .ret))))
theorem hd77 : Try.f77.body.map dec = some c77 := by kernel_rfl
theorem e77 {R : AV → AH → Prop} {h : AH} (x0 : AV) (H : h.wf → AI Try.prog c77 (RetQ Try.prog [.tmp 2] R) [x0, un, un, un, un, un, un, un, un, un, un, un, un, un, un, un, un, un, un, un, un, un, un, un, un, un, un, un, un, un, un, un, un, un] h) : AC Try.prog 77 [x0] h R :=
  AC_of' (rs := [.tmp 2]) Try.func77 (by kernel_rfl) hd77 Try.ntmps77 rfl H
theorem dz77_0 {h0 : AH} {L : List It} {Q : Exit → List AV → List It → Prop} {a : List AV} {id : Nat} (H : LX Try.prog ⟨[], []⟩ h0 L L (.c (⟨some 19, .move (.tmp 0), none⟩, .p) <| .c (⟨some 20, .move (.tmp 3), none⟩, .p) <| .c (⟨some 21, .slice 22 (.tmp 19) none (some (.tmp 20)) none, none⟩, .p) <| .c (⟨some 22, .move (.tmp 0), none⟩, .p) <| .c (⟨some 23, .move (.tmp 3), none⟩, .p) <| .c (⟨some 24, .indexAddr 22 (.tmp 22) (.tmp 23), none⟩, .p) <| .c (⟨some 25, .load 3 (.tmp 24), none⟩, .l) <| .c (⟨some 26, .move (.tmp 0), none⟩, .p) <| .c (⟨some 27, .move (.tmp 3), none⟩, .p) <| .c (⟨some 28, .binOp .sub 3 (.tmp 27) (.const (.int .i64 1)) 3, none⟩, .p) <| .c (⟨some 29, .indexAddr 22 (.tmp 26) (.tmp 28), none⟩, .p) <| .c (⟨some 30, .load 3 (.tmp 29), none⟩, .l) <| .c (⟨some 31, .binOp .sub 3 (.tmp 25) (.tmp 30) 3, none⟩, .p) <| .c (⟨some 32, .call { callee := .value (.func 90), args := #[.tmp 21, .tmp 31], argTypes := #[22, 3] }, none⟩, .e) <| .c (⟨some 33, .unOp .not 4 (.tmp 32), none⟩, .p) <| .n) Q a) : LI Try.prog h0 L (.raw (.region id rg77_0 true)) Q a :=
  LI_draw (.c (0, .p) <| .c (1, .p) <| .c (2, .p) <| .c (3, .p) <| .c (4, .p) <| .c (5, .p) <| .c (6, .l) <| .c (7, .p) <| .c (8, .p) <| .c (9, .p) <| .c (10, .p) <| .c (11, .l) <| .c (12, .p) <| .c (13, .e) <| .c (14, .p) <| .n) [] (by kernel_rfl) (by kernel_rfl) (by kernel_rfl) H
theorem dy77_0 {h0 : AH} {L : List It} {Q : Exit → List AV → List It → Prop} {a : List AV} {id : Nat} (H : LX Try.prog ⟨[13], []⟩ h0 L L (.c (⟨some 19, .move (.tmp 0), none⟩, .p) <| .c (⟨some 20, .move (.tmp 3), none⟩, .p) <| .c (⟨some 21, .slice 22 (.tmp 19) none (some (.tmp 20)) none, none⟩, .p) <| .c (⟨some 22, .move (.tmp 0), none⟩, .p) <| .c (⟨some 23, .move (.tmp 3), none⟩, .p) <| .c (⟨some 24, .indexAddr 22 (.tmp 22) (.tmp 23), none⟩, .p) <| .c (⟨some 25, .load 3 (.tmp 24), none⟩, .l) <| .c (⟨some 26, .move (.tmp 0), none⟩, .p) <| .c (⟨some 27, .move (.tmp 3), none⟩, .p) <| .c (⟨some 28, .binOp .sub 3 (.tmp 27) (.const (.int .i64 1)) 3, none⟩, .p) <| .c (⟨some 29, .indexAddr 22 (.tmp 26) (.tmp 28), none⟩, .p) <| .c (⟨some 30, .load 3 (.tmp 29), none⟩, .l) <| .c (⟨some 31, .binOp .sub 3 (.tmp 25) (.tmp 30) 3, none⟩, .p) <| .c (⟨some 32, .call { callee := .value (.func 90), args := #[.tmp 21, .tmp 31], argTypes := #[22, 3] }, none⟩, .f) <| .c (⟨some 33, .unOp .not 4 (.tmp 32), none⟩, .p) <| .n) Q a) : LI Try.prog h0 L (.raw (.region id rg77_0 true)) Q a :=
  LI_draw (.c (0, .p) <| .c (1, .p) <| .c (2, .p) <| .c (3, .p) <| .c (4, .p) <| .c (5, .p) <| .c (6, .l) <| .c (7, .p) <| .c (8, .p) <| .c (9, .p) <| .c (10, .p) <| .c (11, .l) <| .c (12, .p) <| .c (13, .f) <| .c (14, .p) <| .n) [13] (by kernel_rfl) (by kernel_rfl) (by kernel_rfl) H
theorem dr77_0 (m : Nat) {Q : Exit → List AV → AH → Prop} {a : List AV} {h : AH} {id : Nat} (H : AX Try.prog m h [(⟨some 19, .move (.tmp 0), none⟩, true),
  (⟨some 20, .move (.tmp 3), none⟩, true),
  (⟨some 21, .slice 22 (.tmp 19) none (some (.tmp 20)) none, none⟩, true),
  (⟨some 22, .move (.tmp 0), none⟩, true),
  (⟨some 23, .move (.tmp 3), none⟩, true),
  (⟨some 24, .indexAddr 22 (.tmp 22) (.tmp 23), none⟩, true),
  (⟨some 25, .load 3 (.tmp 24), none⟩, true),
  (⟨some 26, .move (.tmp 0), none⟩, true),
  (⟨some 27, .move (.tmp 3), none⟩, true),
  (⟨some 28, .binOp .sub 3 (.tmp 27) (.const (.int .i64 1)) 3, none⟩, true),
  (⟨some 29, .indexAddr 22 (.tmp 26) (.tmp 28), none⟩, true),
  (⟨some 30, .load 3 (.tmp 29), none⟩, true),
  (⟨some 31, .binOp .sub 3 (.tmp 25) (.tmp 30) 3, none⟩, true),
  (⟨some 32, .call { callee := .value (.func 90), args := #[.tmp 21, .tmp 31], argTypes := #[22, 3] }, none⟩, false),
  (⟨some 33, .unOp .not 4 (.tmp 32), none⟩, true)] (fun a' h' => Q .normal a' h') a h) : AI Try.prog (.raw (.region id rg77_0 true)) Q a h :=
  AI_draw [(0, true), (1, true), (2, true), (3, true), (4, true), (5, true), (6, true), (7, true), (8, true), (9, true), (10, true), (11, true), (12, true), (13, false), (14, true)] m (by kernel_rfl) (by kernel_rfl) (by kernel_rfl) H

/-- spec.IsStarChain -/
def c34 : IC :=
  (.seq
  (.reg [
    ⟨some 2, .assign (.const (.bool false)), none⟩])
  (.seq
  (.reg [
    ⟨some 3, .move (.tmp 0), none⟩,
    ⟨some 4, .call { callee := .builtin .len, args := #[.tmp 3], argTypes := #[22] }, none⟩,
    ⟨some 5, .binOp .leq 3 (.tmp 4) (.const (.int .i64 41)) 3, none⟩,
    ⟨some 6, .move (.tmp 5), none⟩,
    ⟨some 7, .move (.tmp 0), some (6, true)⟩,
    ⟨some 8, .call { callee := .value (.func 76), args := #[.tmp 7, .const (.int .i64 1), .const (.int .i64 1000000)], argTypes := #[22, 3, 3] }, some (6, true)⟩,
    ⟨some 9, .pick (.tmp 6) (.tmp 8) (.const (.bool false)), none⟩,
    ⟨some 10, .move (.tmp 9), none⟩,
    ⟨some 11, .move (.tmp 0), some (10, true)⟩,
    ⟨some 12, .call { callee := .value (.func 77), args := #[.tmp 11], argTypes := #[22] }, some (10, true)⟩,
    ⟨some 13, .pick (.tmp 10) (.tmp 12) (.const (.bool false)), none⟩,
    ⟨some 2, .assign (.tmp 13), none⟩])
  .ret))
theorem hd34 : Try.f34.body.map dec = some c34 := by kernel_rfl
theorem e34 {R : AV → AH → Prop} {h : AH} (x0 : AV) (H : h.wf → AI Try.prog c34 (RetQ Try.prog [.tmp 2] R) [x0, un, un, un, un, un, un, un, un, un, un, un, un, un] h) : AC Try.prog 34 [x0] h R :=
  AC_of' (rs := [.tmp 2]) Try.func34 (by kernel_rfl) hd34 Try.ntmps34 rfl H

/-- laws.rHas -/
def c35 : IC :=
  (.seq
  (.reg [
    ⟨some 4, .assign (.const (.bool false)), none⟩])
  (.seq
  (.seq
  (.reg [
    ⟨some 7, .move (.tmp 0), none⟩,
    ⟨some 8, .call { callee := .builtin .len, args := #[.tmp 7], argTypes := #[22] }, none⟩,
    ⟨some 9, .move (.const (.int .i64 0)), none⟩])
  (.block 0
  (.loop
    (.seq
    (.reg [
      ⟨some 10, .binOp .lss 3 (.tmp 9) (.tmp 8) 3, none⟩])
    (.seq
    (.cond (.tmp 10)
      .skip
      (.exit 0))
    (.seq
    (.block 1
    (.seq
    (.reg [
      ⟨some 11, .indexAddr 22 (.tmp 7) (.tmp 9), none⟩,
      ⟨some 12, .load 3 (.tmp 11), none⟩,
      ⟨some 6, .assign (.tmp 12), none⟩])
    (.seq
    (.reg [
      ⟨some 13, .move (.tmp 6), none⟩,
      ⟨some 14, .move (.tmp 1), none⟩,
      ⟨some 15, .binOp .eql 3 (.tmp 13) (.tmp 14) 3, none⟩])
    (.cond (.tmp 15)
      (.seq
      (.reg [
        ⟨some 4, .assign (.const (.bool true)), none⟩])
      .ret)
      .skip))))
    (.reg [
      ⟨some 16, .binOp .add 3 (.tmp 9) (.const (.int .i64 1)) 3, none⟩,
      ⟨some 9, .move (.tmp 16), none⟩])))))))
  (.seq
  (.reg [
    ⟨some 4, .assign (.const (.bool false)), none⟩])
  .ret)))
theorem hd35 : Try.f35.body.map dec = some c35 := by kernel_rfl
theorem e35 {R : AV → AH → Prop} {h : AH} (x0 x1 : AV) (H : h.wf → AI Try.prog c35 (RetQ Try.prog [.tmp 4] R) [x0, x1, un, un, un, un, un, un, un, un, un, un, un, un, un, un, un] h) : AC Try.prog 35 [x0, x1] h R :=
  AC_of' (rs := [.tmp 4]) Try.func35 (by kernel_rfl) hd35 Try.ntmps35 rfl H

/-- impl.isShort -/
def c59 : IC :=
  (.seq
  (.reg [
    ⟨some 2, .assign (.const (.bool false)), none⟩])
  (.seq
  (.reg [
    ⟨some 3, .move (.tmp 0), none⟩,
    ⟨some 4, .call { callee := .value (.func 65), args := #[.tmp 3, .const (.int .i64 1), .const (.int .i64 100)], argTypes := #[3, 3, 3] }, none⟩,
    ⟨some 2, .assign (.tmp 4), none⟩])
  .ret))
theorem hd59 : Try.f59.body.map dec = some c59 := by kernel_rfl
theorem e59 {R : AV → AH → Prop} {h : AH} (x0 : AV) (H : h.wf → AI Try.prog c59 (RetQ Try.prog [.tmp 2] R) [x0, un, un, un, un] h) : AC Try.prog 59 [x0] h R :=
  AC_of' (rs := [.tmp 2]) Try.func59 (by kernel_rfl) hd59 Try.ntmps59 rfl H

/-- slices.Clip[[]int,int] -/
def c92 : IC :=
  (.seq
  (.reg [
    ⟨some 2, .assign (.const (.slice none 0 0)), none⟩])
  (.seq
  (.reg [
    ⟨some 3, .move (.tmp 0), none⟩,
    ⟨some 4, .move (.tmp 0), none⟩,
    ⟨some 5, .call { callee := .builtin .len, args := #[.tmp 4], argTypes := #[22] }, none⟩,
    ⟨some 6, .move (.tmp 0), none⟩,
    ⟨some 7, .call { callee := .builtin .len, args := #[.tmp 6], argTypes := #[22] }, none⟩,
    ⟨some 8, .slice 22 (.tmp 3) none (some (.tmp 5)) (some (.tmp 7)), none⟩,
    ⟨some 2, .assign (.tmp 8), none⟩])
  .ret))
theorem hd92 : Try.f92.body.map dec = some c92 := by kernel_rfl
theorem e92 {R : AV → AH → Prop} {h : AH} (x0 : AV) (H : h.wf → AI Try.prog c92 (RetQ Try.prog [.tmp 2] R) [x0, un, un, un, un, un, un, un, un] h) : AC Try.prog 92 [x0] h R :=
  AC_of' (rs := [.tmp 2]) Try.func92 (by kernel_rfl) hd92 Try.ntmps92 rfl H

/-- impl.stars -/
def c70 : IC :=
  (.seq
  (.reg [
    ⟨some 8, .assign (.const (.bool false)), none⟩])
  (.seq
  (.reg [
    ⟨some 13, .move (.tmp 2), none⟩,
    ⟨some 14, .move (.tmp 2), none⟩,
    ⟨some 15, .call { callee := .builtin .len, args := #[.tmp 14], argTypes := #[22] }, none⟩,
    ⟨some 16, .binOp .sub 3 (.tmp 15) (.const (.int .i64 1)) 3, none⟩,
    ⟨some 17, .indexAddr 22 (.tmp 13) (.tmp 16), none⟩,
    ⟨some 18, .load 3 (.tmp 17), none⟩,
    ⟨some 9, .assign (.tmp 18), none⟩])
  (.seq
  (.reg [
    ⟨some 19, .move (.tmp 1), none⟩,
    ⟨some 20, .move (.tmp 2), none⟩,
    ⟨some 21, .call { callee := .builtin .len, args := #[.tmp 20], argTypes := #[22] }, none⟩,
    ⟨some 22, .binOp .sub 3 (.tmp 19) (.tmp 21) 3, none⟩,
    ⟨some 23, .binOp .add 3 (.tmp 22) (.const (.int .i64 1)) 3, none⟩,
    ⟨some 10, .assign (.tmp 23), none⟩])
  (.seq
  (.block 0
  (.seq
  (.reg [
    ⟨some 25, .move (.tmp 10), none⟩,
    ⟨some 26, .binOp .eql 3 (.tmp 25) (.const (.int .i64 0)) 3, none⟩,
    ⟨some 24, .assign (.tmp 26), none⟩])
  (.cond (.tmp 24)
    (.seq
    (.reg [
      ⟨some 27, .move (.tmp 9), none⟩,
      ⟨some 28, .move (.tmp 0), none⟩,
      ⟨some 29, .binOp .eql 3 (.tmp 27) (.tmp 28) 3, none⟩,
      ⟨some 30, .move (.tmp 29), none⟩,
      ⟨some 31, .move (.tmp 3), some (30, true)⟩,
      ⟨some 32, .move (.tmp 2), some (30, true)⟩,
      ⟨some 33, .call { callee := .value (.tmp 31), args := #[.tmp 32], argTypes := #[22] }, some (30, true)⟩,
      ⟨some 34, .pick (.tmp 30) (.tmp 33) (.const (.bool false)), none⟩,
      ⟨some 8, .assign (.tmp 34), none⟩])
    .ret)
    (.seq
    (.reg [
      ⟨some 36, .move (.tmp 9), none⟩,
      ⟨some 37, .move (.tmp 0), none⟩,
      ⟨some 38, .binOp .geq 3 (.tmp 36) (.tmp 37) 3, none⟩,
      ⟨some 39, .move (.tmp 38), none⟩,
      ⟨some 40, .move (.tmp 9), some (39, false)⟩,
      ⟨some 41, .move (.tmp 10), some (39, false)⟩,
      ⟨some 42, .binOp .shl 3 (.tmp 40) (.tmp 41) 3, some (39, false)⟩,
      ⟨some 43, .move (.tmp 0), some (39, false)⟩,
      ⟨some 44, .binOp .lss 3 (.tmp 42) (.tmp 43) 3, some (39, false)⟩,
      ⟨some 45, .pick (.tmp 39) (.const (.bool true)) (.tmp 44), none⟩,
      ⟨some 35, .assign (.tmp 45), none⟩])
    (.cond (.tmp 35)
      (.seq
      (.reg [
        ⟨some 8, .assign (.const (.bool false)), none⟩])
      .ret)
      .skip)))))
  (.seq
  (.seq
  (.reg [
    ⟨some 46, .move (.tmp 2), none⟩,
    ⟨some 47, .call { callee := .builtin .len, args := #[.tmp 46], argTypes := #[22] }, none⟩,
    ⟨some 48, .move (.const (.int .i64 0)), none⟩])
  (.block 1
  (.loop
    (.seq
    (.reg [
      ⟨some 49, .binOp .lss 3 (.tmp 48) (.tmp 47) 3, none⟩])
    (.seq
    (.cond (.tmp 49)
      .skip
      (.exit 1))
    (.seq
    (.block 2
    (.seq
    (.reg [
      ⟨some 50, .indexAddr 22 (.tmp 46) (.tmp 48), none⟩,
      ⟨some 51, .load 3 (.tmp 50), none⟩,
      ⟨some 12, .assign (.tmp 51), none⟩])
    (.seq
    (.reg [
      ⟨some 52, .move (.tmp 0), none⟩,
      ⟨some 53, .move (.tmp 1), none⟩,
      ⟨some 54, .move (.tmp 2), none⟩,
      ⟨some 55, .call { callee := .value (.func 92), args := #[.tmp 54], argTypes := #[22] }, none⟩,
      ⟨some 56, .move (.tmp 9), none⟩,
      ⟨some 57, .move (.tmp 12), none⟩,
      ⟨some 58, .binOp .add 3 (.tmp 56) (.tmp 57) 3, none⟩,
      ⟨some 59, .buildSlice 22 1 #[(0, .tmp 58)], none⟩,
      ⟨some 60, .call { callee := .builtin .append, args := #[.tmp 55, .tmp 59], argTypes := #[22, 22] }, none⟩,
      ⟨some 61, .move (.tmp 3), none⟩,
      ⟨some 62, .call { callee := .value (.func 70), args := #[.tmp 52, .tmp 53, .tmp 60, .tmp 61], argTypes := #[3, 3, 22, 38] }, none⟩])
    (.cond (.tmp 62)
      (.seq
      (.reg [
        ⟨some 8, .assign (.const (.bool true)), none⟩])
      .ret)
      .skip))))
    (.reg [
      ⟨some 63, .binOp .add 3 (.tmp 48) (.const (.int .i64 1)) 3, none⟩,
      ⟨some 48, .move (.tmp 63), none⟩])))))))
  (.seq
  (.reg [
    ⟨some 8, .assign (.const (.bool false)), none⟩])
  .ret))))))
theorem hd70 : Try.f70.body.map dec = some c70 := by kernel_rfl
theorem e70 {R : AV → AH → Prop} {h : AH} (x0 x1 x2 x3 : AV) (H : h.wf → AI Try.prog c70 (RetQ Try.prog [.tmp 8] R) [x0, x1, x2, x3, un, un, un, un, un, un, un, un, un, un, un, un, un, un, un, un, un, un, un, un, un, un, un, un, un, un, un, un, un, un, un, un, un, un, un, un, un, un, un, un, un, un, un, un, un, un, un, un, un, un, un, un, un, un, un, un, un, un, un, un] h) : AC Try.prog 70 [x0, x1, x2, x3] h R :=
  AC_of' (rs := [.tmp 8]) Try.func70 (by kernel_rfl) hd70 Try.ntmps70 rfl H

/-- slices.Clone[[]int,int] -/
def c72 : IC :=
  (.seq
  (.reg [
    ⟨some 2, .assign (.const (.slice none 0 0)), none⟩])
  (.seq
  (.seq
  (.reg [
    ⟨some 3, .move (.tmp 0), none⟩,
    ⟨some 4, .binOp .eql 22 (.tmp 3) (.const (.slice none 0 0)) 22, none⟩])
  (.cond (.tmp 4)
    (.seq
    (.reg [
      ⟨some 2, .assign (.const (.slice none 0 0)), none⟩])
    .ret)
    .skip))
  (.seq
  (.reg [
    ⟨some 5, .buildSlice 22 0 #[], none⟩,
    ⟨some 6, .move (.tmp 0), none⟩,
    ⟨some 7, .call { callee := .builtin .append, args := #[.tmp 5, .tmp 6], argTypes := #[22, 22] }, none⟩,
    ⟨some 2, .assign (.tmp 7), none⟩])
  .ret)))
theorem hd72 : Try.f72.body.map dec = some c72 := by kernel_rfl
theorem e72 {R : AV → AH → Prop} {h : AH} (x0 : AV) (H : h.wf → AI Try.prog c72 (RetQ Try.prog [.tmp 2] R) [x0, un, un, un, un, un, un, un] h) : AC Try.prog 72 [x0] h R :=
  AC_of' (rs := [.tmp 2]) Try.func72 (by kernel_rfl) hd72 Try.ntmps72 rfl H

/-- impl.firstStar$1 -/
def c89 : IC :=
  (.seq
  (.reg [
    ⟨some 3, .assign (.const (.bool false)), none⟩])
  (.seq
  (.reg [
    ⟨some 4, .move (.tmp 0), none⟩,
    ⟨some 5, .call { callee := .value (.func 72), args := #[.tmp 4], argTypes := #[22] }, none⟩,
    ⟨none, .store 22 (.tmp 1) (.tmp 5), none⟩])
  (.seq
  (.reg [
    ⟨some 3, .assign (.const (.bool true)), none⟩])
  .ret)))
theorem hd89 : Try.f89.body.map dec = some c89 := by kernel_rfl
theorem e89 {R : AV → AH → Prop} {h : AH} (x0 x1 : AV) (H : h.wf → AI Try.prog c89 (RetQ Try.prog [.tmp 3] R) [x0, x1, un, un, un, un] h) : AC Try.prog 89 [x0, x1] h R :=
  AC_of' (rs := [.tmp 3]) Try.func89 (by kernel_rfl) hd89 Try.ntmps89 rfl H

/-- impl.firstStar -/
def c61 : IC :=
  (.seq
  (.reg [
    ⟨some 4, .assign (.const (.slice none 0 0)), none⟩,
    ⟨some 5, .assign (.const (.bool false)), none⟩])
  (.seq
  (.reg [
    ⟨some 8, .buildSlice 22 0 #[], none⟩,
    ⟨some 6, .alloc 22, none⟩,
    ⟨none, .store 22 (.tmp 6) (.tmp 8), none⟩])
  (.seq
  (.reg [
    ⟨some 9, .move (.tmp 0), none⟩,
    ⟨some 10, .move (.tmp 1), none⟩,
    ⟨some 11, .buildSlice 22 1 #[(0, .const (.int .i64 1))], none⟩,
    ⟨some 12, .makeFunc (.func 89) #[] #[.tmp 6], none⟩,
    ⟨some 13, .call { callee := .value (.func 70), args := #[.tmp 9, .tmp 10, .tmp 11, .tmp 12], argTypes := #[3, 3, 22, 38] }, none⟩,
    ⟨some 7, .assign (.tmp 13), none⟩])
  (.seq
  (.reg [
    ⟨some 14, .load 22 (.tmp 6), none⟩,
    ⟨some 15, .move (.tmp 7), none⟩,
    ⟨some 4, .assign (.tmp 14), none⟩,
    ⟨some 5, .assign (.tmp 15), none⟩])
  .ret))))
theorem hd61 : Try.f61.body.map dec = some c61 := by kernel_rfl
theorem e61 {R : AV → AH → Prop} {h : AH} (x0 x1 : AV) (H : h.wf → AI Try.prog c61 (RetQ Try.prog [.tmp 4, .tmp 5] R) [x0, x1, un, un, un, un, un, un, un, un, un, un, un, un, un, un] h) : AC Try.prog 61 [x0, x1] h R :=
  AC_of' (rs := [.tmp 4, .tmp 5]) Try.func61 (by kernel_rfl) hd61 Try.ntmps61 rfl H

/-- impl.shortest -/
def c68 : IC :=
  (.seq
  (.reg [
    ⟨some 2, .assign (.const (.slice none 0 0)), none⟩])
  (.seq
  (.reg [
    ⟨some 3, .assign (.const (.int .i64 0)), none⟩])
  (.block 0
  (.loop
    (.seq
    (.block 1
    (.seq
    (.reg [
      ⟨some 9, .move (.tmp 0), none⟩,
      ⟨some 10, .move (.tmp 3), none⟩,
      ⟨some 11, .call { callee := .value (.func 61), args := #[.tmp 9, .tmp 10], argTypes := #[3, 3] }, none⟩,
      ⟨some 8, .move (.tmp 11), none⟩,
      ⟨some 12, .extract (.tmp 8) 0, none⟩,
      ⟨some 13, .extract (.tmp 8) 1, none⟩,
      ⟨some 4, .assign (.tmp 12), none⟩,
      ⟨some 5, .assign (.tmp 13), none⟩])
    (.seq
    (.reg [
      ⟨some 14, .move (.tmp 5), none⟩])
    (.cond (.tmp 14)
      (.seq
      (.reg [
        ⟨some 15, .move (.tmp 4), none⟩,
        ⟨some 2, .assign (.tmp 15), none⟩])
      .ret)
      .skip))))
    (.reg [
      ⟨some 6, .move (.tmp 3), none⟩,
      ⟨some 7, .binOp .add 3 (.tmp 6) (.const (.int .i64 1)) 3, none⟩,
      ⟨some 3, .assign (.tmp 7), none⟩]))))))
theorem hd68 : Try.f68.body.map dec = some c68 := by kernel_rfl
theorem e68 {R : AV → AH → Prop} {h : AH} (x0 : AV) (H : h.wf → AI Try.prog c68 (RetQ Try.prog [.tmp 2] R) [x0, un, un, un, un, un, un, un, un, un, un, un, un, un, un, un] h) : AC Try.prog 68 [x0] h R :=
  AC_of' (rs := [.tmp 2]) Try.func68 (by kernel_rfl) hd68 Try.ntmps68 rfl H

/-- impl.StarLength -/
def c36 : IC :=
  (.seq
  (.reg [
    ⟨some 2, .assign (.const (.int .i64 0)), none⟩,
    ⟨some 3, .assign (.const (.bool false)), none⟩])
  (.seq
  (.seq
  (.reg [
    ⟨some 4, .move (.tmp 0), none⟩,
    ⟨some 5, .call { callee := .value (.func 59), args := #[.tmp 4], argTypes := #[3] }, none⟩,
    ⟨some 6, .unOp .not 4 (.tmp 5), none⟩])
  (.cond (.tmp 6)
    (.seq
    (.reg [
      ⟨some 2, .assign (.const (.int .i64 0)), none⟩,
      ⟨some 3, .assign (.const (.bool false)), none⟩])
    .ret)
    .skip))
  (.seq
  (.reg [
    ⟨some 7, .move (.tmp 0), none⟩,
    ⟨some 8, .call { callee := .value (.func 68), args := #[.tmp 7], argTypes := #[3] }, none⟩,
    ⟨some 9, .call { callee := .builtin .len, args := #[.tmp 8], argTypes := #[22] }, none⟩,
    ⟨some 10, .binOp .sub 3 (.tmp 9) (.const (.int .i64 1)) 3, none⟩,
    ⟨some 2, .assign (.tmp 10), none⟩,
    ⟨some 3, .assign (.const (.bool true)), none⟩])
  .ret)))
theorem hd36 : Try.f36.body.map dec = some c36 := by kernel_rfl
theorem e36 {R : AV → AH → Prop} {h : AH} (x0 : AV) (H : h.wf → AI Try.prog c36 (RetQ Try.prog [.tmp 2, .tmp 3] R) [x0, un, un, un, un, un, un, un, un, un, un] h) : AC Try.prog 36 [x0] h R :=
  AC_of' (rs := [.tmp 2, .tmp 3]) Try.func36 (by kernel_rfl) hd36 Try.ntmps36 rfl H

noncomputable def rg8_0 : Array Oper := rawAt Try.f8 0
/-- laws.FnStarChecks -/
noncomputable def c8 : IC :=
  (.seq
  (.reg [
    ⟨some 4, .assign (.const (.bool false)), none⟩])
  (.seq
  (.seq
  (.reg [
    ⟨some 10, .move (.tmp 0), none⟩,
    ⟨some 11, .move (.tmp 1), none⟩,
    ⟨some 12, .call { callee := .value (.func 31), args := #[.tmp 10, .tmp 11], argTypes := #[35, 35] }, none⟩])
  (.cond (.tmp 12)
    (.seq
    (.reg [
      ⟨some 4, .assign (.const (.bool true)), none⟩])
    .ret)
    .skip))
  (.seq
  (.reg [
    ⟨some 13, .move (.tmp 0), none⟩,
    ⟨some 14, .call { callee := .value (.func 32), args := #[.tmp 13], argTypes := #[35] }, none⟩,
    ⟨some 5, .assign (.tmp 14), none⟩])
  (.seq
  (.reg [
    ⟨some 15, .move (.tmp 5), none⟩,
    ⟨some 16, .call { callee := .value (.func 33), args := #[.tmp 15], argTypes := #[22] }, none⟩,
    ⟨some 6, .assign (.tmp 16), none⟩])
  (.seq
  (.seq
  (.reg [
    ⟨some 17, .move (.tmp 6), none⟩,
    ⟨some 18, .move (.tmp 5), none⟩,
    ⟨some 19, .call { callee := .value (.func 34), args := #[.tmp 18], argTypes := #[22] }, none⟩,
    ⟨some 20, .binOp .neq 4 (.tmp 17) (.tmp 19) 4, none⟩])
  (.cond (.tmp 20)
    (.seq
    (.reg [
      ⟨some 4, .assign (.const (.bool false)), none⟩])
    .ret)
    .skip))
  (.seq
  (.seq
  (.reg [
    ⟨some 21, .move (.tmp 6), none⟩,
    ⟨some 22, .unOp .not 4 (.tmp 21), none⟩])
  (.cond (.tmp 22)
    (.seq
    (.reg [
      ⟨some 4, .assign (.const (.bool true)), none⟩])
    .ret)
    .skip))
  (.seq
  (.seq
  (.reg [
    ⟨some 7, .assign (.const (.int .i64 1)), none⟩])
  (.block 0
  (.loop
    (.seq
    (.seq
    (.reg [
      ⟨some 23, .move (.tmp 7), none⟩,
      ⟨some 24, .move (.tmp 5), none⟩,
      ⟨some 25, .call { callee := .builtin .len, args := #[.tmp 24], argTypes := #[22] }, none⟩,
      ⟨some 26, .binOp .lss 3 (.tmp 23) (.tmp 25) 3, none⟩])
    (.cond (.tmp 26)
      .skip
      (.exit 0)))
    (.seq
    (.block 1
    (.seq
    (.raw (.region 12 rg8_0 true))
    (.cond (.tmp 43)
      (.seq
      (.reg [
        ⟨some 4, .assign (.const (.bool false)), none⟩])
      .ret)
      .skip)))
    (.reg [
      ⟨some 27, .move (.tmp 7), none⟩,
      ⟨some 28, .binOp .add 3 (.tmp 27) (.const (.int .i64 1)) 3, none⟩,
      ⟨some 7, .assign (.tmp 28), none⟩]))))))
  (.seq
  (.reg [
    ⟨some 45, .move (.tmp 5), none⟩,
    ⟨some 46, .move (.tmp 5), none⟩,
    ⟨some 47, .call { callee := .builtin .len, args := #[.tmp 46], argTypes := #[22] }, none⟩,
    ⟨some 48, .binOp .sub 3 (.tmp 47) (.const (.int .i64 1)) 3, none⟩,
    ⟨some 49, .indexAddr 22 (.tmp 45) (.tmp 48), none⟩,
    ⟨some 50, .load 3 (.tmp 49), none⟩,
    ⟨some 51, .call { callee := .value (.func 36), args := #[.tmp 50], argTypes := #[3] }, none⟩,
    ⟨some 44, .move (.tmp 51), none⟩,
    ⟨some 52, .extract (.tmp 44) 0, none⟩,
    ⟨some 53, .extract (.tmp 44) 1, none⟩,
    ⟨some 8, .assign (.tmp 52), none⟩,
    ⟨some 9, .assign (.tmp 53), none⟩])
  (.seq
  (.reg [
    ⟨some 54, .move (.tmp 9), none⟩,
    ⟨some 55, .unOp .not 4 (.tmp 54), none⟩,
    ⟨some 56, .move (.tmp 55), none⟩,
    ⟨some 57, .move (.tmp 8), some (56, false)⟩,
    ⟨some 58, .move (.tmp 5), some (56, false)⟩,
    ⟨some 59, .call { callee := .builtin .len, args := #[.tmp 58], argTypes := #[22] }, some (56, false)⟩,
    ⟨some 60, .binOp .lss 3 (.tmp 57) (.tmp 59) 3, some (56, false)⟩,
    ⟨some 61, .pick (.tmp 56) (.const (.bool true)) (.tmp 60), none⟩,
    ⟨some 4, .assign (.tmp 61), none⟩])
  .ret)))))))))
theorem hd8 : Try.f8.body.map dec = some c8 := by kernel_rfl
theorem e8 {R : AV → AH → Prop} {h : AH} (x0 x1 : AV) (H : h.wf → AI Try.prog c8 (RetQ Try.prog [.tmp 4] R) [x0, x1, un, un, un, un, un, un, un, un, un, un, un, un, un, un, un, un, un, un, un, un, un, un, un, un, un, un, un, un, un, un, un, un, un, un, un, un, un, un, un, un, un, un, un, un, un, un, un, un, un, un, un, un, un, un, un, un, un, un, un, un] h) : AC Try.prog 8 [x0, x1] h R :=
  AC_of' (rs := [.tmp 4]) Try.func8 (by kernel_rfl) hd8 Try.ntmps8 rfl H
theorem dz8_0 {h0 : AH} {L : List It} {Q : Exit → List AV → List It → Prop} {a : List AV} {id : Nat} (H : LX Try.prog ⟨[], []⟩ h0 L L (.c (⟨some 29, .move (.tmp 5), none⟩, .p) <| .c (⟨some 30, .move (.tmp 7), none⟩, .p) <| .c (⟨some 31, .slice 22 (.tmp 29) none (some (.tmp 30)) none, none⟩, .p) <| .c (⟨some 32, .move (.tmp 5), none⟩, .p) <| .c (⟨some 33, .move (.tmp 7), none⟩, .p) <| .c (⟨some 34, .indexAddr 22 (.tmp 32) (.tmp 33), none⟩, .p) <| .c (⟨some 35, .load 3 (.tmp 34), none⟩, .l) <| .c (⟨some 36, .move (.tmp 5), none⟩, .p) <| .c (⟨some 37, .move (.tmp 7), none⟩, .p) <| .c (⟨some 38, .binOp .sub 3 (.tmp 37) (.const (.int .i64 1)) 3, none⟩, .p) <| .c (⟨some 39, .indexAddr 22 (.tmp 36) (.tmp 38), none⟩, .p) <| .c (⟨some 40, .load 3 (.tmp 39), none⟩, .l) <| .c (⟨some 41, .binOp .sub 3 (.tmp 35) (.tmp 40) 3, none⟩, .p) <| .c (⟨some 42, .call { callee := .value (.func 35), args := #[.tmp 31, .tmp 41], argTypes := #[22, 3] }, none⟩, .e) <| .c (⟨some 43, .unOp .not 4 (.tmp 42), none⟩, .p) <| .n) Q a) : LI Try.prog h0 L (.raw (.region id rg8_0 true)) Q a :=
  LI_draw (.c (0, .p) <| .c (1, .p) <| .c (2, .p) <| .c (3, .p) <| .c (4, .p) <| .c (5, .p) <| .c (6, .l) <| .c (7, .p) <| .c (8, .p) <| .c (9, .p) <| .c (10, .p) <| .c (11, .l) <| .c (12, .p) <| .c (13, .e) <| .c (14, .p) <| .n) [] (by kernel_rfl) (by kernel_rfl) (by kernel_rfl) H
theorem dy8_0 {h0 : AH} {L : List It} {Q : Exit → List AV → List It → Prop} {a : List AV} {id : Nat} (H : LX Try.prog ⟨[13], []⟩ h0 L L (.c (⟨some 29, .move (.tmp 5), none⟩, .p) <| .c (⟨some 30, .move (.tmp 7), none⟩, .p) <| .c (⟨some 31, .slice 22 (.tmp 29) none (some (.tmp 30)) none, none⟩, .p) <| .c (⟨some 32, .move (.tmp 5), none⟩, .p) <| .c (⟨some 33, .move (.tmp 7), none⟩, .p) <| .c (⟨some 34, .indexAddr 22 (.tmp 32) (.tmp 33), none⟩, .p) <| .c (⟨some 35, .load 3 (.tmp 34), none⟩, .l) <| .c (⟨some 36, .move (.tmp 5), none⟩, .p) <| .c (⟨some 37, .move (.tmp 7), none⟩, .p) <| .c (⟨some 38, .binOp .sub 3 (.tmp 37) (.const (.int .i64 1)) 3, none⟩, .p) <| .c (⟨some 39, .indexAddr 22 (.tmp 36) (.tmp 38), none⟩, .p) <| .c (⟨some 40, .load 3 (.tmp 39), none⟩, .l) <| .c (⟨some 41, .binOp .sub 3 (.tmp 35) (.tmp 40) 3, none⟩, .p) <| .c (⟨some 42, .call { callee := .value (.func 35), args := #[.tmp 31, .tmp 41], argTypes := #[22, 3] }, none⟩, .f) <| .c (⟨some 43, .unOp .not 4 (.tmp 42), none⟩, .p) <| .n) Q a) : LI Try.prog h0 L (.raw (.region id rg8_0 true)) Q a :=
  LI_draw (.c (0, .p) <| .c (1, .p) <| .c (2, .p) <| .c (3, .p) <| .c (4, .p) <| .c (5, .p) <| .c (6, .l) <| .c (7, .p) <| .c (8, .p) <| .c (9, .p) <| .c (10, .p) <| .c (11, .l) <| .c (12, .p) <| .c (13, .f) <| .c (14, .p) <| .n) [13] (by kernel_rfl) (by kernel_rfl) (by kernel_rfl) H
theorem dr8_0 (m : Nat) {Q : Exit → List AV → AH → Prop} {a : List AV} {h : AH} {id : Nat} (H : AX Try.prog m h [(⟨some 29, .move (.tmp 5), none⟩, true),
  (⟨some 30, .move (.tmp 7), none⟩, true),
  (⟨some 31, .slice 22 (.tmp 29) none (some (.tmp 30)) none, none⟩, true),
  (⟨some 32, .move (.tmp 5), none⟩, true),
  (⟨some 33, .move (.tmp 7), none⟩, true),
  (⟨some 34, .indexAddr 22 (.tmp 32) (.tmp 33), none⟩, true),
  (⟨some 35, .load 3 (.tmp 34), none⟩, true),
  (⟨some 36, .move (.tmp 5), none⟩, true),
  (⟨some 37, .move (.tmp 7), none⟩, true),
  (⟨some 38, .binOp .sub 3 (.tmp 37) (.const (.int .i64 1)) 3, none⟩, true),
  (⟨some 39, .indexAddr 22 (.tmp 36) (.tmp 38), none⟩, true),
  (⟨some 40, .load 3 (.tmp 39), none⟩, true),
  (⟨some 41, .binOp .sub 3 (.tmp 35) (.tmp 40) 3, none⟩, true),
  (⟨some 42, .call { callee := .value (.func 35), args := #[.tmp 31, .tmp 41], argTypes := #[22, 3] }, none⟩, false),
  (⟨some 43, .unOp .not 4 (.tmp 42), none⟩, true)] (fun a' h' => Q .normal a' h') a h) : AI Try.prog (.raw (.region id rg8_0 true)) Q a h :=
  AI_draw [(0, true), (1, true), (2, true), (3, true), (4, true), (5, true), (6, true), (7, true), (8, true), (9, true), (10, true), (11, true), (12, true), (13, false), (14, true)] m (by kernel_rfl) (by kernel_rfl) (by kernel_rfl) H

end Go.Proofs.Ytlgjakoeogpjlaa
