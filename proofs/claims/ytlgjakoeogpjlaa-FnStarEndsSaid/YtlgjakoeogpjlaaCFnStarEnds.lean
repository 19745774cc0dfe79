/- The short forms of the functions' code, and facts on types. -/
import Derived.Test.YtlgjakoeogpjlaaProg
import Derived.Test.YtlgjakoeogpjlaaD6
namespace Go.Proofs.Ytlgjakoeogpjlaa
open Go.AL
set_option linter.unusedVariables false
theorem sz0 : szT Try.prog 0 = some 1 := by kernel_rfl
theorem by0 : byT Try.prog 0 = some 0 := by kernel_rfl
theorem ag0 : aggT Try.prog 0 = some false := by kernel_rfl
instance jsz0 : Tsz Try.prog 0 1 := ⟨sz0⟩
instance jby0 : Tby Try.prog 0 0 := ⟨by0⟩
instance jag0 : Tag Try.prog 0 false := ⟨ag0⟩
theorem sz1 : szT Try.prog 1 = some 1 := by kernel_rfl
theorem by1 : byT Try.prog 1 = some 8 := by kernel_rfl
theorem ag1 : aggT Try.prog 1 = some false := by kernel_rfl
instance jsz1 : Tsz Try.prog 1 1 := ⟨sz1⟩
instance jby1 : Tby Try.prog 1 8 := ⟨by1⟩
instance jag1 : Tag Try.prog 1 false := ⟨ag1⟩
theorem ze1 : zeroA Try.prog 1 = some .nf := by kernel_rfl
instance jze1 : Tze Try.prog 1 (.nf) := ⟨ze1⟩
theorem sz2 : szT Try.prog 2 = some 1 := by kernel_rfl
theorem by2 : byT Try.prog 2 = some 8 := by kernel_rfl
theorem ag2 : aggT Try.prog 2 = some false := by kernel_rfl
instance jsz2 : Tsz Try.prog 2 1 := ⟨sz2⟩
instance jby2 : Tby Try.prog 2 8 := ⟨by2⟩
instance jag2 : Tag Try.prog 2 false := ⟨ag2⟩
instance jik2 : Tik Try.prog 2 .i64 := ⟨Try.underlying2⟩
theorem ze2 : zeroA Try.prog 2 = some (.i .i64 0) := by kernel_rfl
instance jze2 : Tze Try.prog 2 (.i .i64 0) := ⟨ze2⟩
theorem sz3 : szT Try.prog 3 = some 1 := by kernel_rfl
theorem by3 : byT Try.prog 3 = some 8 := by kernel_rfl
theorem ag3 : aggT Try.prog 3 = some false := by kernel_rfl
instance jsz3 : Tsz Try.prog 3 1 := ⟨sz3⟩
instance jby3 : Tby Try.prog 3 8 := ⟨by3⟩
instance jag3 : Tag Try.prog 3 false := ⟨ag3⟩
instance jik3 : Tik Try.prog 3 .i64 := ⟨Try.underlying3⟩
theorem ze3 : zeroA Try.prog 3 = some (.i .i64 0) := by kernel_rfl
instance jze3 : Tze Try.prog 3 (.i .i64 0) := ⟨ze3⟩
theorem sz4 : szT Try.prog 4 = some 1 := by kernel_rfl
theorem by4 : byT Try.prog 4 = some 1 := by kernel_rfl
theorem ag4 : aggT Try.prog 4 = some false := by kernel_rfl
instance jsz4 : Tsz Try.prog 4 1 := ⟨sz4⟩
instance jby4 : Tby Try.prog 4 1 := ⟨by4⟩
instance jag4 : Tag Try.prog 4 false := ⟨ag4⟩
instance jbo4 : Tbo Try.prog 4 := ⟨Try.underlying4⟩
theorem ze4 : zeroA Try.prog 4 = some (.b false) := by kernel_rfl
instance jze4 : Tze Try.prog 4 (.b false) := ⟨ze4⟩
theorem sz5 : szT Try.prog 5 = some 1 := by kernel_rfl
theorem by5 : byT Try.prog 5 = some 1 := by kernel_rfl
theorem ag5 : aggT Try.prog 5 = some false := by kernel_rfl
instance jsz5 : Tsz Try.prog 5 1 := ⟨sz5⟩
instance jby5 : Tby Try.prog 5 1 := ⟨by5⟩
instance jag5 : Tag Try.prog 5 false := ⟨ag5⟩
instance jik5 : Tik Try.prog 5 .u8 := ⟨Try.underlying5⟩
theorem ze5 : zeroA Try.prog 5 = some (.i .u8 0) := by kernel_rfl
instance jze5 : Tze Try.prog 5 (.i .u8 0) := ⟨ze5⟩
theorem sz9 : szT Try.prog 9 = some 1 := by kernel_rfl
theorem by9 : byT Try.prog 9 = some 16 := by kernel_rfl
theorem ag9 : aggT Try.prog 9 = some false := by kernel_rfl
instance jsz9 : Tsz Try.prog 9 1 := ⟨sz9⟩
instance jby9 : Tby Try.prog 9 16 := ⟨by9⟩
instance jag9 : Tag Try.prog 9 false := ⟨ag9⟩
instance jst9 : Tst Try.prog 9 := ⟨Try.underlying9⟩
theorem ze9 : zeroA Try.prog 9 = some (.s ⟨#[]⟩) := by kernel_rfl
instance jze9 : Tze Try.prog 9 (.s ⟨#[]⟩) := ⟨ze9⟩
theorem sz22 : szT Try.prog 22 = some 1 := by kernel_rfl
theorem by22 : byT Try.prog 22 = some 24 := by kernel_rfl
theorem ag22 : aggT Try.prog 22 = some false := by kernel_rfl
instance jsz22 : Tsz Try.prog 22 1 := ⟨sz22⟩
instance jby22 : Tby Try.prog 22 24 := ⟨by22⟩
instance jag22 : Tag Try.prog 22 false := ⟨ag22⟩
instance jsl22 : Tsl Try.prog 22 3 := ⟨Try.underlying22⟩
theorem ze22 : zeroA Try.prog 22 = some .ns := by kernel_rfl
instance jze22 : Tze Try.prog 22 (.ns) := ⟨ze22⟩
theorem sz35 : szT Try.prog 35 = some 1 := by kernel_rfl
theorem by35 : byT Try.prog 35 = some 24 := by kernel_rfl
theorem ag35 : aggT Try.prog 35 = some false := by kernel_rfl
instance jsz35 : Tsz Try.prog 35 1 := ⟨sz35⟩
instance jby35 : Tby Try.prog 35 24 := ⟨by35⟩
instance jag35 : Tag Try.prog 35 false := ⟨ag35⟩
instance jsl35 : Tsl Try.prog 35 5 := ⟨Try.underlying35⟩
theorem ze35 : zeroA Try.prog 35 = some .ns := by kernel_rfl
instance jze35 : Tze Try.prog 35 (.ns) := ⟨ze35⟩
theorem sz38 : szT Try.prog 38 = some 1 := by kernel_rfl
theorem by38 : byT Try.prog 38 = some 8 := by kernel_rfl
theorem ag38 : aggT Try.prog 38 = some false := by kernel_rfl
instance jsz38 : Tsz Try.prog 38 1 := ⟨sz38⟩
instance jby38 : Tby Try.prog 38 8 := ⟨by38⟩
instance jag38 : Tag Try.prog 38 false := ⟨ag38⟩
theorem ze38 : zeroA Try.prog 38 = some .nf := by kernel_rfl
instance jze38 : Tze Try.prog 38 (.nf) := ⟨ze38⟩
theorem sz58 : szT Try.prog 58 = some 1 := by kernel_rfl
theorem by58 : byT Try.prog 58 = some 8 := by kernel_rfl
theorem ag58 : aggT Try.prog 58 = some false := by kernel_rfl
instance jsz58 : Tsz Try.prog 58 1 := ⟨sz58⟩
instance jby58 : Tby Try.prog 58 8 := ⟨by58⟩
instance jag58 : Tag Try.prog 58 false := ⟨ag58⟩
theorem ze58 : zeroA Try.prog 58 = some .np := by kernel_rfl
instance jze58 : Tze Try.prog 58 (.np) := ⟨ze58⟩
theorem sz59 : szT Try.prog 59 = some 1 := by kernel_rfl
theorem by59 : byT Try.prog 59 = some 8 := by kernel_rfl
theorem ag59 : aggT Try.prog 59 = some false := by kernel_rfl
instance jsz59 : Tsz Try.prog 59 1 := ⟨sz59⟩
instance jby59 : Tby Try.prog 59 8 := ⟨by59⟩
instance jag59 : Tag Try.prog 59 false := ⟨ag59⟩
instance jik59 : Tik Try.prog 59 .u64 := ⟨Try.underlying59⟩
theorem ze59 : zeroA Try.prog 59 = some (.i .u64 0) := by kernel_rfl
instance jze59 : Tze Try.prog 59 (.i .u64 0) := ⟨ze59⟩
theorem sz61 : szT Try.prog 61 = some 3 := by kernel_rfl
theorem by61 : byT Try.prog 61 = some 40 := by kernel_rfl
theorem ag61 : aggT Try.prog 61 = some true := by kernel_rfl
instance jsz61 : Tsz Try.prog 61 3 := ⟨sz61⟩
instance jby61 : Tby Try.prog 61 40 := ⟨by61⟩
instance jag61 : Tag Try.prog 61 true := ⟨ag61⟩
theorem ze61 : zeroA Try.prog 61 = some (.agg [.ns, (.i .i64 0), (.i .u64 0)]) := by kernel_rfl
instance jze61 : Tze Try.prog 61 (.agg [.ns, (.i .i64 0), (.i .u64 0)]) := ⟨ze61⟩
theorem fl61_0 : fldA Try.prog 61 0 = some (0, 1, false) := by kernel_rfl
instance jfl61_0 : Tfl Try.prog 61 0 0 1 false := ⟨fl61_0⟩
theorem fl61_1 : fldA Try.prog 61 1 = some (1, 1, false) := by kernel_rfl
instance jfl61_1 : Tfl Try.prog 61 1 1 1 false := ⟨fl61_1⟩
theorem fl61_2 : fldA Try.prog 61 2 = some (2, 1, false) := by kernel_rfl
instance jfl61_2 : Tfl Try.prog 61 2 2 1 false := ⟨fl61_2⟩
theorem pa61 : plA Try.prog 61 = some [(0, 1), (1, 1), (2, 1)] := by kernel_rfl
instance jpl61 : Tpl Try.prog 61 [(0, 1), (1, 1), (2, 1)] := ⟨pa61⟩
theorem sz67 : szT Try.prog 67 = some 1 := by kernel_rfl
theorem by67 : byT Try.prog 67 = some 8 := by kernel_rfl
theorem ag67 : aggT Try.prog 67 = some false := by kernel_rfl
instance jsz67 : Tsz Try.prog 67 1 := ⟨sz67⟩
instance jby67 : Tby Try.prog 67 8 := ⟨by67⟩
instance jag67 : Tag Try.prog 67 false := ⟨ag67⟩
instance jik67 : Tik Try.prog 67 .u64 := ⟨Try.underlying67⟩
theorem ze67 : zeroA Try.prog 67 = some (.i .u64 0) := by kernel_rfl
instance jze67 : Tze Try.prog 67 (.i .u64 0) := ⟨ze67⟩
theorem sz69 : szT Try.prog 69 = some 1 := by kernel_rfl
theorem by69 : byT Try.prog 69 = some 8 := by kernel_rfl
theorem ag69 : aggT Try.prog 69 = some false := by kernel_rfl
instance jsz69 : Tsz Try.prog 69 1 := ⟨sz69⟩
instance jby69 : Tby Try.prog 69 8 := ⟨by69⟩
instance jag69 : Tag Try.prog 69 false := ⟨ag69⟩
theorem ze69 : zeroA Try.prog 69 = some .nm := by kernel_rfl
instance jze69 : Tze Try.prog 69 (.nm) := ⟨ze69⟩
theorem sz75 : szT Try.prog 75 = some 1 := by kernel_rfl
theorem by75 : byT Try.prog 75 = some 4 := by kernel_rfl
theorem ag75 : aggT Try.prog 75 = some false := by kernel_rfl
instance jsz75 : Tsz Try.prog 75 1 := ⟨sz75⟩
instance jby75 : Tby Try.prog 75 4 := ⟨by75⟩
instance jag75 : Tag Try.prog 75 false := ⟨ag75⟩
instance jik75 : Tik Try.prog 75 .u32 := ⟨Try.underlying75⟩
theorem ze75 : zeroA Try.prog 75 = some (.i .u32 0) := by kernel_rfl
instance jze75 : Tze Try.prog 75 (.i .u32 0) := ⟨ze75⟩
theorem sz79 : szT Try.prog 79 = some 1 := by kernel_rfl
theorem by79 : byT Try.prog 79 = some 8 := by kernel_rfl
theorem ag79 : aggT Try.prog 79 = some false := by kernel_rfl
instance jsz79 : Tsz Try.prog 79 1 := ⟨sz79⟩
instance jby79 : Tby Try.prog 79 8 := ⟨by79⟩
instance jag79 : Tag Try.prog 79 false := ⟨ag79⟩
instance jik79 : Tik Try.prog 79 .i64 := ⟨Try.underlying79⟩
theorem ze79 : zeroA Try.prog 79 = some (.i .i64 0) := by kernel_rfl
instance jze79 : Tze Try.prog 79 (.i .i64 0) := ⟨ze79⟩
theorem sz84 : szT Try.prog 84 = some 1 := by kernel_rfl
theorem by84 : byT Try.prog 84 = some 8 := by kernel_rfl
theorem ag84 : aggT Try.prog 84 = some false := by kernel_rfl
instance jsz84 : Tsz Try.prog 84 1 := ⟨sz84⟩
instance jby84 : Tby Try.prog 84 8 := ⟨by84⟩
instance jag84 : Tag Try.prog 84 false := ⟨ag84⟩
instance jik84 : Tik Try.prog 84 .u64 := ⟨Try.underlying84⟩
theorem ze84 : zeroA Try.prog 84 = some (.i .u64 0) := by kernel_rfl
instance jze84 : Tze Try.prog 84 (.i .u64 0) := ⟨ze84⟩
theorem sz88 : szT Try.prog 88 = some 1 := by kernel_rfl
theorem by88 : byT Try.prog 88 = some 8 := by kernel_rfl
theorem ag88 : aggT Try.prog 88 = some false := by kernel_rfl
instance jsz88 : Tsz Try.prog 88 1 := ⟨sz88⟩
instance jby88 : Tby Try.prog 88 8 := ⟨by88⟩
instance jag88 : Tag Try.prog 88 false := ⟨ag88⟩
theorem ze88 : zeroA Try.prog 88 = some .np := by kernel_rfl
instance jze88 : Tze Try.prog 88 (.np) := ⟨ze88⟩

/-- laws.big -/
def c31 : IC :=
  (.seq
  (.reg [
    ⟨some 4, .assign (.const (.bool false)), none⟩])
  (.seq
  (.reg [
    ⟨some 5, .move (.tmp 0), none⟩,
    ⟨some 6, .call { callee := .builtin .len, args := #[.tmp 5], argTypes := #[35] }, none⟩,
    ⟨some 7, .binOp .gtr 3 (.tmp 6) (.const (.int .i64 1048576)) 3, none⟩,
    ⟨some 8, .move (.tmp 7), none⟩,
    ⟨some 9, .move (.tmp 1), some (8, false)⟩,
    ⟨some 10, .call { callee := .builtin .len, args := #[.tmp 9], argTypes := #[35] }, some (8, false)⟩,
    ⟨some 11, .move (.tmp 0), some (8, false)⟩,
    ⟨some 12, .call { callee := .builtin .len, args := #[.tmp 11], argTypes := #[35] }, some (8, false)⟩,
    ⟨some 13, .binOp .sub 3 (.const (.int .i64 1048576)) (.tmp 12) 3, some (8, false)⟩,
    ⟨some 14, .binOp .gtr 3 (.tmp 10) (.tmp 13) 3, some (8, false)⟩,
    ⟨some 15, .pick (.tmp 8) (.const (.bool true)) (.tmp 14), none⟩,
    ⟨some 4, .assign (.tmp 15), none⟩])
  .ret))
theorem hd31 : Try.f31.body.map dec = some c31 := by kernel_rfl
theorem e31 {R : AV → AH → Prop} {h : AH} (x0 x1 : AV) (H : h.wf → AI Try.prog c31 (RetQ Try.prog [.tmp 4] R) [x0, x1, un, un, un, un, un, un, un, un, un, un, un, un, un, un] h) : AC Try.prog 31 [x0, x1] h R :=
  AC_of' (rs := [.tmp 4]) Try.func31 (by kernel_rfl) hd31 Try.ntmps31 rfl H

/-- laws.rHas -/
def c35 : IC :=
  (.seq
  (.reg [
    ⟨some 4, .assign (.const (.bool false)), none⟩])
  (.seq
  (.seq
  (.reg [
    ⟨some 7, .move (.tmp 0), none⟩,
    ⟨some 8, .call { callee := .builtin .len, args := #[.tmp 7], argTypes := #[22] }, none⟩,
    ⟨some 9, .move (.const (.int .i64 0)), none⟩])
  (.block 0
  (.loop
    (.seq
    (.reg [
      ⟨some 10, .binOp .lss 3 (.tmp 9) (.tmp 8) 3, none⟩])
    (.seq
    (.cond (.tmp 10)
      .skip
      (.exit 0))
    (.seq
    (.block 1
    (.seq
    (.reg [
      ⟨some 11, .indexAddr 22 (.tmp 7) (.tmp 9), none⟩,
      ⟨some 12, .load 3 (.tmp 11), none⟩,
      ⟨some 6, .assign (.tmp 12), none⟩])
    (.seq
    (.reg [
      ⟨some 13, .move (.tmp 6), none⟩,
      ⟨some 14, .move (.tmp 1), none⟩,
      ⟨some 15, .binOp .eql 3 (.tmp 13) (.tmp 14) 3, none⟩])
    (.cond (.tmp 15)
      (.seq
      (.reg [
        ⟨some 4, .assign (.const (.bool true)), none⟩])
      .ret)
      .skip))))
    (.reg [
      ⟨some 16, .binOp .add 3 (.tmp 9) (.const (.int .i64 1)) 3, none⟩,
      ⟨some 9, .move (.tmp 16), none⟩])))))))
  (.seq
  (.reg [
    ⟨some 4, .assign (.const (.bool false)), none⟩])
  .ret)))
theorem hd35 : Try.f35.body.map dec = some c35 := by kernel_rfl
theorem e35 {R : AV → AH → Prop} {h : AH} (x0 x1 : AV) (H : h.wf → AI Try.prog c35 (RetQ Try.prog [.tmp 4] R) [x0, x1, un, un, un, un, un, un, un, un, un, un, un, un, un, un, un] h) : AC Try.prog 35 [x0, x1] h R :=
  AC_of' (rs := [.tmp 4]) Try.func35 (by kernel_rfl) hd35 Try.ntmps35 rfl H

noncomputable def rg38_0 : Array Oper := rawAt Try.f38 0
/-- laws.rSame -/
noncomputable def c38 : IC :=
  (.seq
  (.reg [
    ⟨some 4, .assign (.const (.bool false)), none⟩])
  (.seq
  (.seq
  (.reg [
    ⟨some 6, .move (.tmp 0), none⟩,
    ⟨some 7, .call { callee := .builtin .len, args := #[.tmp 6], argTypes := #[22] }, none⟩,
    ⟨some 8, .move (.tmp 1), none⟩,
    ⟨some 9, .call { callee := .builtin .len, args := #[.tmp 8], argTypes := #[22] }, none⟩,
    ⟨some 10, .binOp .neq 3 (.tmp 7) (.tmp 9) 3, none⟩])
  (.cond (.tmp 10)
    (.seq
    (.reg [
      ⟨some 4, .assign (.const (.bool false)), none⟩])
    .ret)
    .skip))
  (.seq
  (.seq
  (.reg [
    ⟨some 11, .move (.tmp 0), none⟩,
    ⟨some 12, .call { callee := .builtin .len, args := #[.tmp 11], argTypes := #[22] }, none⟩,
    ⟨some 13, .move (.const (.int .i64 0)), none⟩])
  (.block 0
  (.loop
    (.seq
    (.reg [
      ⟨some 14, .binOp .lss 3 (.tmp 13) (.tmp 12) 3, none⟩])
    (.seq
    (.cond (.tmp 14)
      .skip
      (.exit 0))
    (.seq
    (.block 1
    (.seq
    (.reg [
      ⟨some 15, .move (.tmp 13), none⟩,
      ⟨some 5, .assign (.tmp 15), none⟩])
    (.seq
    (.raw (.region 6 rg38_0 true))
    (.cond (.tmp 24)
      (.seq
      (.reg [
        ⟨some 4, .assign (.const (.bool false)), none⟩])
      .ret)
      .skip))))
    (.reg [
      ⟨some 25, .binOp .add 3 (.tmp 13) (.const (.int .i64 1)) 3, none⟩,
      ⟨some 13, .move (.tmp 25), none⟩])))))))
  (.seq
  (.reg [
    ⟨some 4, .assign (.const (.bool true)), none⟩])
  .ret))))
theorem hd38 : Try.f38.body.map dec = some c38 := by kernel_rfl
theorem e38 {R : AV → AH → Prop} {h : AH} (x0 x1 : AV) (H : h.wf → AI Try.prog c38 (RetQ Try.prog [.tmp 4] R) [x0, x1, un, un, un, un, un, un, un, un, un, un, un, un, un, un, un, un, un, un, un, un, un, un, un, un] h) : AC Try.prog 38 [x0, x1] h R :=
  AC_of' (rs := [.tmp 4]) Try.func38 (by kernel_rfl) hd38 Try.ntmps38 rfl H
theorem dz38_0 {h0 : AH} {L : List It} {Q : Exit → List AV → List It → Prop} {a : List AV} {id : Nat} (H : LX Try.prog ⟨[], []⟩ h0 L L (.c (⟨some 16, .move (.tmp 0), none⟩, .p) <| .c (⟨some 17, .move (.tmp 5), none⟩, .p) <| .c (⟨some 18, .indexAddr 22 (.tmp 16) (.tmp 17), none⟩, .p) <| .c (⟨some 19, .load 3 (.tmp 18), none⟩, .l) <| .c (⟨some 20, .move (.tmp 1), none⟩, .p) <| .c (⟨some 21, .move (.tmp 5), none⟩, .p) <| .c (⟨some 22, .indexAddr 22 (.tmp 20) (.tmp 21), none⟩, .p) <| .c (⟨some 23, .load 3 (.tmp 22), none⟩, .l) <| .c (⟨some 24, .binOp .neq 3 (.tmp 19) (.tmp 23) 3, none⟩, .p) <| .n) Q a) : LI Try.prog h0 L (.raw (.region id rg38_0 true)) Q a :=
  LI_draw (.c (0, .p) <| .c (1, .p) <| .c (2, .p) <| .c (3, .l) <| .c (4, .p) <| .c (5, .p) <| .c (6, .p) <| .c (7, .l) <| .c (8, .p) <| .n) [] (by kernel_rfl) (by kernel_rfl) (by kernel_rfl) H
theorem dr38_0 (m : Nat) {Q : Exit → List AV → AH → Prop} {a : List AV} {h : AH} {id : Nat} (H : AX Try.prog m h [(⟨some 16, .move (.tmp 0), none⟩, true),
  (⟨some 17, .move (.tmp 5), none⟩, true),
  (⟨some 18, .indexAddr 22 (.tmp 16) (.tmp 17), none⟩, true),
  (⟨some 19, .load 3 (.tmp 18), none⟩, true),
  (⟨some 20, .move (.tmp 1), none⟩, true),
  (⟨some 21, .move (.tmp 5), none⟩, true),
  (⟨some 22, .indexAddr 22 (.tmp 20) (.tmp 21), none⟩, true),
  (⟨some 23, .load 3 (.tmp 22), none⟩, true),
  (⟨some 24, .binOp .neq 3 (.tmp 19) (.tmp 23) 3, none⟩, true)] (fun a' h' => Q .normal a' h') a h) : AI Try.prog (.raw (.region id rg38_0 true)) Q a h :=
  AI_draw [(0, true), (1, true), (2, true), (3, true), (4, true), (5, true), (6, true), (7, true), (8, true)] m (by kernel_rfl) (by kernel_rfl) (by kernel_rfl) H

/-- impl.in -/
def c65 : IC :=
  (.seq
  (.reg [
    ⟨some 6, .assign (.const (.bool false)), none⟩])
  (.seq
  (.reg [
    ⟨some 7, .move (.tmp 0), none⟩,
    ⟨some 8, .move (.tmp 1), none⟩,
    ⟨some 9, .binOp .geq 3 (.tmp 7) (.tmp 8) 3, none⟩,
    ⟨some 10, .move (.tmp 9), none⟩,
    ⟨some 11, .move (.tmp 0), some (10, true)⟩,
    ⟨some 12, .move (.tmp 2), some (10, true)⟩,
    ⟨some 13, .binOp .leq 3 (.tmp 11) (.tmp 12) 3, some (10, true)⟩,
    ⟨some 14, .pick (.tmp 10) (.tmp 13) (.const (.bool false)), none⟩,
    ⟨some 6, .assign (.tmp 14), none⟩])
  .ret))
theorem hd65 : Try.f65.body.map dec = some c65 := by kernel_rfl
theorem e65 {R : AV → AH → Prop} {h : AH} (x0 x1 x2 : AV) (H : h.wf → AI Try.prog c65 (RetQ Try.prog [.tmp 6] R) [x0, x1, x2, un, un, un, un, un, un, un, un, un, un, un, un] h) : AC Try.prog 65 [x0, x1, x2] h R :=
  AC_of' (rs := [.tmp 6]) Try.func65 (by kernel_rfl) hd65 Try.ntmps65 rfl H

/-- impl.isShort -/
def c59 : IC :=
  (.seq
  (.reg [
    ⟨some 2, .assign (.const (.bool false)), none⟩])
  (.seq
  (.reg [
    ⟨some 3, .move (.tmp 0), none⟩,
    ⟨some 4, .call { callee := .value (.func 65), args := #[.tmp 3, .const (.int .i64 1), .const (.int .i64 100)], argTypes := #[3, 3, 3] }, none⟩,
    ⟨some 2, .assign (.tmp 4), none⟩])
  .ret))
theorem hd59 : Try.f59.body.map dec = some c59 := by kernel_rfl
theorem e59 {R : AV → AH → Prop} {h : AH} (x0 : AV) (H : h.wf → AI Try.prog c59 (RetQ Try.prog [.tmp 2] R) [x0, un, un, un, un] h) : AC Try.prog 59 [x0] h R :=
  AC_of' (rs := [.tmp 2]) Try.func59 (by kernel_rfl) hd59 Try.ntmps59 rfl H

/-- impl.lengthOk -/
def c60 : IC :=
  (.seq
  (.reg [
    ⟨some 2, .assign (.const (.bool false)), none⟩])
  (.seq
  (.reg [
    ⟨some 3, .move (.tmp 0), none⟩,
    ⟨some 4, .call { callee := .value (.func 65), args := #[.tmp 3, .const (.int .i64 0), .const (.int .i64 8)], argTypes := #[3, 3, 3] }, none⟩,
    ⟨some 2, .assign (.tmp 4), none⟩])
  .ret))
theorem hd60 : Try.f60.body.map dec = some c60 := by kernel_rfl
theorem e60 {R : AV → AH → Prop} {h : AH} (x0 : AV) (H : h.wf → AI Try.prog c60 (RetQ Try.prog [.tmp 2] R) [x0, un, un, un, un] h) : AC Try.prog 60 [x0] h R :=
  AC_of' (rs := [.tmp 2]) Try.func60 (by kernel_rfl) hd60 Try.ntmps60 rfl H

/-- slices.Clip[[]int,int] -/
def c92 : IC :=
  (.seq
  (.reg [
    ⟨some 2, .assign (.const (.slice none 0 0)), none⟩])
  (.seq
  (.reg [
    ⟨some 3, .move (.tmp 0), none⟩,
    ⟨some 4, .move (.tmp 0), none⟩,
    ⟨some 5, .call { callee := .builtin .len, args := #[.tmp 4], argTypes := #[22] }, none⟩,
    ⟨some 6, .move (.tmp 0), none⟩,
    ⟨some 7, .call { callee := .builtin .len, args := #[.tmp 6], argTypes := #[22] }, none⟩,
    ⟨some 8, .slice 22 (.tmp 3) none (some (.tmp 5)) (some (.tmp 7)), none⟩,
    ⟨some 2, .assign (.tmp 8), none⟩])
  .ret))
theorem hd92 : Try.f92.body.map dec = some c92 := by kernel_rfl
theorem e92 {R : AV → AH → Prop} {h : AH} (x0 : AV) (H : h.wf → AI Try.prog c92 (RetQ Try.prog [.tmp 2] R) [x0, un, un, un, un, un, un, un, un] h) : AC Try.prog 92 [x0] h R :=
  AC_of' (rs := [.tmp 2]) Try.func92 (by kernel_rfl) hd92 Try.ntmps92 rfl H

/-- impl.stars -/
def c70 : IC :=
  (.seq
  (.reg [
    ⟨some 8, .assign (.const (.bool false)), none⟩])
  (.seq
  (.reg [
    ⟨some 13, .move (.tmp 2), none⟩,
    ⟨some 14, .move (.tmp 2), none⟩,
    ⟨some 15, .call { callee := .builtin .len, args := #[.tmp 14], argTypes := #[22] }, none⟩,
    ⟨some 16, .binOp .sub 3 (.tmp 15) (.const (.int .i64 1)) 3, none⟩,
    ⟨some 17, .indexAddr 22 (.tmp 13) (.tmp 16), none⟩,
    ⟨some 18, .load 3 (.tmp 17), none⟩,
    ⟨some 9, .assign (.tmp 18), none⟩])
  (.seq
  (.reg [
    ⟨some 19, .move (.tmp 1), none⟩,
    ⟨some 20, .move (.tmp 2), none⟩,
    ⟨some 21, .call { callee := .builtin .len, args := #[.tmp 20], argTypes := #[22] }, none⟩,
    ⟨some 22, .binOp .sub 3 (.tmp 19) (.tmp 21) 3, none⟩,
    ⟨some 23, .binOp .add 3 (.tmp 22) (.const (.int .i64 1)) 3, none⟩,
    ⟨some 10, .assign (.tmp 23), none⟩])
  (.seq
  (.block 0
  (.seq
  (.reg [
    ⟨some 25, .move (.tmp 10), none⟩,
    ⟨some 26, .binOp .eql 3 (.tmp 25) (.const (.int .i64 0)) 3, none⟩,
    ⟨some 24, .assign (.tmp 26), none⟩])
  (.cond (.tmp 24)
    (.seq
    (.reg [
      ⟨some 27, .move (.tmp 9), none⟩,
      ⟨some 28, .move (.tmp 0), none⟩,
      ⟨some 29, .binOp .eql 3 (.tmp 27) (.tmp 28) 3, none⟩,
      ⟨some 30, .move (.tmp 29), none⟩,
      ⟨some 31, .move (.tmp 3), some (30, true)⟩,
      ⟨some 32, .move (.tmp 2), some (30, true)⟩,
      ⟨some 33, .call { callee := .value (.tmp 31), args := #[.tmp 32], argTypes := #[22] }, some (30, true)⟩,
      ⟨some 34, .pick (.tmp 30) (.tmp 33) (.const (.bool false)), none⟩,
      ⟨some 8, .assign (.tmp 34), none⟩])
    .ret)
    (.seq
    (.reg [
      ⟨some 36, .move (.tmp 9), none⟩,
      ⟨some 37, .move (.tmp 0), none⟩,
      ⟨some 38, .binOp .geq 3 (.tmp 36) (.tmp 37) 3, none⟩,
      ⟨some 39, .move (.tmp 38), none⟩,
      ⟨some 40, .move (.tmp 9), some (39, false)⟩,
      ⟨some 41, .move (.tmp 10), some (39, false)⟩,
      ⟨some 42, .binOp .shl 3 (.tmp 40) (.tmp 41) 3, some (39, false)⟩,
      ⟨some 43, .move (.tmp 0), some (39, false)⟩,
      ⟨some 44, .binOp .lss 3 (.tmp 42) (.tmp 43) 3, some (39, false)⟩,
      ⟨some 45, .pick (.tmp 39) (.const (.bool true)) (.tmp 44), none⟩,
      ⟨some 35, .assign (.tmp 45), none⟩])
    (.cond (.tmp 35)
      (.seq
      (.reg [
        ⟨some 8, .assign (.const (.bool false)), none⟩])
      .ret)
      .skip)))))
  (.seq
  (.seq
  (.reg [
    ⟨some 46, .move (.tmp 2), none⟩,
    ⟨some 47, .call { callee := .builtin .len, args := #[.tmp 46], argTypes := #[22] }, none⟩,
    ⟨some 48, .move (.const (.int .i64 0)), none⟩])
  (.block 1
  (.loop
    (.seq
    (.reg [
      ⟨some 49, .binOp .lss 3 (.tmp 48) (.tmp 47) 3, none⟩])
    (.seq
    (.cond (.tmp 49)
      .skip
      (.exit 1))
    (.seq
    (.block 2
    (.seq
    (.reg [
      ⟨some 50, .indexAddr 22 (.tmp 46) (.tmp 48), none⟩,
      ⟨some 51, .load 3 (.tmp 50), none⟩,
      ⟨some 12, .assign (.tmp 51), none⟩])
    (.seq
    (.reg [
      ⟨some 52, .move (.tmp 0), none⟩,
      ⟨some 53, .move (.tmp 1), none⟩,
      ⟨some 54, .move (.tmp 2), none⟩,
      ⟨some 55, .call { callee := .value (.func 92), args := #[.tmp 54], argTypes := #[22] }, none⟩,
      ⟨some 56, .move (.tmp 9), none⟩,
      ⟨some 57, .move (.tmp 12), none⟩,
      ⟨some 58, .binOp .add 3 (.tmp 56) (.tmp 57) 3, none⟩,
      ⟨some 59, .buildSlice 22 1 #[(0, .tmp 58)], none⟩,
      ⟨some 60, .call { callee := .builtin .append, args := #[.tmp 55, .tmp 59], argTypes := #[22, 22] }, none⟩,
      ⟨some 61, .move (.tmp 3), none⟩,
      ⟨some 62, .call { callee := .value (.func 70), args := #[.tmp 52, .tmp 53, .tmp 60, .tmp 61], argTypes := #[3, 3, 22, 38] }, none⟩])
    (.cond (.tmp 62)
      (.seq
      (.reg [
        ⟨some 8, .assign (.const (.bool true)), none⟩])
      .ret)
      .skip))))
    (.reg [
      ⟨some 63, .binOp .add 3 (.tmp 48) (.const (.int .i64 1)) 3, none⟩,
      ⟨some 48, .move (.tmp 63), none⟩])))))))
  (.seq
  (.reg [
    ⟨some 8, .assign (.const (.bool false)), none⟩])
  .ret))))))
theorem hd70 : Try.f70.body.map dec = some c70 := by kernel_rfl
theorem e70 {R : AV → AH → Prop} {h : AH} (x0 x1 x2 x3 : AV) (H : h.wf → AI Try.prog c70 (RetQ Try.prog [.tmp 8] R) [x0, x1, x2, x3, un, un, un, un, un, un, un, un, un, un, un, un, un, un, un, un, un, un, un, un, un, un, un, un, un, un, un, un, un, un, un, un, un, un, un, un, un, un, un, un, un, un, un, un, un, un, un, un, un, un, un, un, un, un, un, un, un, un, un, un] h) : AC Try.prog 70 [x0, x1, x2, x3] h R :=
  AC_of' (rs := [.tmp 8]) Try.func70 (by kernel_rfl) hd70 Try.ntmps70 rfl H

/-- impl.CountStars$1 -/
def c79 : IC :=
  (.seq
  (.reg [
    ⟨some 3, .assign (.const (.bool false)), none⟩])
  (.seq
  (.reg [
    ⟨some 4, .load 3 (.tmp 1), none⟩,
    ⟨some 5, .binOp .add 3 (.tmp 4) (.const (.int .i64 1)) 3, none⟩,
    ⟨none, .store 3 (.tmp 1) (.tmp 5), none⟩])
  (.seq
  (.reg [
    ⟨some 3, .assign (.const (.bool false)), none⟩])
  .ret)))
theorem hd79 : Try.f79.body.map dec = some c79 := by kernel_rfl
theorem e79 {R : AV → AH → Prop} {h : AH} (x0 x1 : AV) (H : h.wf → AI Try.prog c79 (RetQ Try.prog [.tmp 3] R) [x0, x1, un, un, un, un] h) : AC Try.prog 79 [x0, x1] h R :=
  AC_of' (rs := [.tmp 3]) Try.func79 (by kernel_rfl) hd79 Try.ntmps79 rfl H

/-- impl.CountStars -/
def c44 : IC :=
  (.seq
  (.reg [
    ⟨some 4, .assign (.const (.int .i64 0)), none⟩,
    ⟨some 5, .assign (.const (.bool false)), none⟩])
  (.seq
  (.seq
  (.reg [
    ⟨some 7, .move (.tmp 0), none⟩,
    ⟨some 8, .call { callee := .value (.func 59), args := #[.tmp 7], argTypes := #[3] }, none⟩,
    ⟨some 9, .unOp .not 4 (.tmp 8), none⟩,
    ⟨some 10, .move (.tmp 9), none⟩,
    ⟨some 11, .move (.tmp 1), some (10, false)⟩,
    ⟨some 12, .call { callee := .value (.func 60), args := #[.tmp 11], argTypes := #[3] }, some (10, false)⟩,
    ⟨some 13, .unOp .not 4 (.tmp 12), some (10, false)⟩,
    ⟨some 14, .pick (.tmp 10) (.const (.bool true)) (.tmp 13), none⟩])
  (.cond (.tmp 14)
    (.seq
    (.reg [
      ⟨some 4, .assign (.const (.int .i64 0)), none⟩,
      ⟨some 5, .assign (.const (.bool false)), none⟩])
    .ret)
    .skip))
  (.seq
  (.reg [
    ⟨some 6, .alloc 3, none⟩,
    ⟨none, .store 3 (.tmp 6) (.const (.int .i64 0)), none⟩])
  (.seq
  (.reg [
    ⟨some 15, .move (.tmp 0), none⟩,
    ⟨some 16, .move (.tmp 1), none⟩,
    ⟨some 17, .buildSlice 22 1 #[(0, .const (.int .i64 1))], none⟩,
    ⟨some 18, .makeFunc (.func 79) #[] #[.tmp 6], none⟩,
    ⟨some 19, .call { callee := .value (.func 70), args := #[.tmp 15, .tmp 16, .tmp 17, .tmp 18], argTypes := #[3, 3, 22, 38] }, none⟩])
  (.seq
  (.reg [
    ⟨some 20, .load 3 (.tmp 6), none⟩,
    ⟨some 4, .assign (.tmp 20), none⟩,
    ⟨some 5, .assign (.const (.bool true)), none⟩])
  .ret)))))
theorem hd44 : Try.f44.body.map dec = some c44 := by kernel_rfl
theorem e44 {R : AV → AH → Prop} {h : AH} (x0 x1 : AV) (H : h.wf → AI Try.prog c44 (RetQ Try.prog [.tmp 4, .tmp 5] R) [x0, x1, un, un, un, un, un, un, un, un, un, un, un, un, un, un, un, un, un, un, un] h) : AC Try.prog 44 [x0, x1] h R :=
  AC_of' (rs := [.tmp 4, .tmp 5]) Try.func44 (by kernel_rfl) hd44 Try.ntmps44 rfl H

/-- spec.l1In -/
def c62 : IC :=
  (.seq
  (.reg [
    ⟨some 6, .assign (.const (.bool false)), none⟩])
  (.seq
  (.reg [
    ⟨some 7, .move (.tmp 0), none⟩,
    ⟨some 8, .move (.tmp 1), none⟩,
    ⟨some 9, .binOp .geq 3 (.tmp 7) (.tmp 8) 3, none⟩,
    ⟨some 10, .move (.tmp 9), none⟩,
    ⟨some 11, .move (.tmp 0), some (10, true)⟩,
    ⟨some 12, .move (.tmp 2), some (10, true)⟩,
    ⟨some 13, .binOp .leq 3 (.tmp 11) (.tmp 12) 3, some (10, true)⟩,
    ⟨some 14, .pick (.tmp 10) (.tmp 13) (.const (.bool false)), none⟩,
    ⟨some 6, .assign (.tmp 14), none⟩])
  .ret))
theorem hd62 : Try.f62.body.map dec = some c62 := by kernel_rfl
theorem e62 {R : AV → AH → Prop} {h : AH} (x0 x1 x2 : AV) (H : h.wf → AI Try.prog c62 (RetQ Try.prog [.tmp 6] R) [x0, x1, x2, un, un, un, un, un, un, un, un, un, un, un, un] h) : AC Try.prog 62 [x0, x1, x2] h R :=
  AC_of' (rs := [.tmp 6]) Try.func62 (by kernel_rfl) hd62 Try.ntmps62 rfl H

/-- spec.l1Own -/
def c88 : IC :=
  (.seq
  (.reg [
    ⟨some 2, .assign (.const (.slice none 0 0)), none⟩])
  (.seq
  (.reg [
    ⟨some 3, .buildSlice 22 0 #[], none⟩,
    ⟨some 4, .move (.tmp 0), none⟩,
    ⟨some 5, .call { callee := .builtin .append, args := #[.tmp 3, .tmp 4], argTypes := #[22, 22] }, none⟩,
    ⟨some 2, .assign (.tmp 5), none⟩])
  .ret))
theorem hd88 : Try.f88.body.map dec = some c88 := by kernel_rfl
theorem e88 {R : AV → AH → Prop} {h : AH} (x0 : AV) (H : h.wf → AI Try.prog c88 (RetQ Try.prog [.tmp 2] R) [x0, un, un, un, un, un] h) : AC Try.prog 88 [x0] h R :=
  AC_of' (rs := [.tmp 2]) Try.func88 (by kernel_rfl) hd88 Try.ntmps88 rfl H

/-- spec.l1Put -/
def c91 : IC :=
  (.seq
  (.reg [
    ⟨some 4, .assign (.const (.slice none 0 0)), none⟩])
  (.seq
  (.reg [
    ⟨some 5, .assign (.const (.int .i64 0)), none⟩])
  (.seq
  (.block 0
  (.loop
    (.seq
    (.seq
    (.reg [
      ⟨some 7, .move (.tmp 5), none⟩,
      ⟨some 8, .move (.tmp 0), none⟩,
      ⟨some 9, .call { callee := .builtin .len, args := #[.tmp 8], argTypes := #[22] }, none⟩,
      ⟨some 10, .binOp .lss 3 (.tmp 7) (.tmp 9) 3, none⟩,
      ⟨some 11, .move (.tmp 10), none⟩,
      ⟨some 12, .move (.tmp 0), some (11, true)⟩,
      ⟨some 13, .move (.tmp 5), some (11, true)⟩,
      ⟨some 14, .indexAddr 22 (.tmp 12) (.tmp 13), some (11, true)⟩,
      ⟨some 15, .load 3 (.tmp 14), some (11, true)⟩,
      ⟨some 16, .move (.tmp 1), some (11, true)⟩,
      ⟨some 17, .binOp .lss 3 (.tmp 15) (.tmp 16) 3, some (11, true)⟩,
      ⟨some 18, .pick (.tmp 11) (.tmp 17) (.const (.bool false)), none⟩])
    (.cond (.tmp 18)
      .skip
      (.exit 0)))
    (.block 1
    (.reg [
      ⟨some 19, .move (.tmp 5), none⟩,
      ⟨some 20, .binOp .add 3 (.tmp 19) (.const (.int .i64 1)) 3, none⟩,
      ⟨some 5, .assign (.tmp 20), none⟩])))))
  (.seq
  (.seq
  (.reg [
    ⟨some 21, .move (.tmp 5), none⟩,
    ⟨some 22, .move (.tmp 0), none⟩,
    ⟨some 23, .call { callee := .builtin .len, args := #[.tmp 22], argTypes := #[22] }, none⟩,
    ⟨some 24, .binOp .lss 3 (.tmp 21) (.tmp 23) 3, none⟩,
    ⟨some 25, .move (.tmp 24), none⟩,
    ⟨some 26, .move (.tmp 0), some (25, true)⟩,
    ⟨some 27, .move (.tmp 5), some (25, true)⟩,
    ⟨some 28, .indexAddr 22 (.tmp 26) (.tmp 27), some (25, true)⟩,
    ⟨some 29, .load 3 (.tmp 28), some (25, true)⟩,
    ⟨some 30, .move (.tmp 1), some (25, true)⟩,
    ⟨some 31, .binOp .eql 3 (.tmp 29) (.tmp 30) 3, some (25, true)⟩,
    ⟨some 32, .pick (.tmp 25) (.tmp 31) (.const (.bool false)), none⟩])
  (.cond (.tmp 32)
    (.seq
    (.reg [
      ⟨some 33, .move (.tmp 0), none⟩,
      ⟨some 4, .assign (.tmp 33), none⟩])
    .ret)
    .skip))
  (.seq
  (.reg [
    ⟨some 34, .buildSlice 22 0 #[], none⟩,
    ⟨some 35, .move (.tmp 0), none⟩,
    ⟨some 36, .move (.tmp 5), none⟩,
    ⟨some 37, .slice 22 (.tmp 35) none (some (.tmp 36)) none, none⟩,
    ⟨some 38, .call { callee := .builtin .append, args := #[.tmp 34, .tmp 37], argTypes := #[22, 22] }, none⟩,
    ⟨some 6, .assign (.tmp 38), none⟩])
  (.seq
  (.reg [
    ⟨some 39, .move (.tmp 6), none⟩,
    ⟨some 40, .move (.tmp 1), none⟩,
    ⟨some 41, .buildSlice 22 1 #[(0, .tmp 40)], none⟩,
    ⟨some 42, .call { callee := .builtin .append, args := #[.tmp 39, .tmp 41], argTypes := #[22, 22] }, none⟩,
    ⟨some 6, .assign (.tmp 42), none⟩])
  (.seq
  (.reg [
    ⟨some 43, .move (.tmp 6), none⟩,
    ⟨some 44, .move (.tmp 0), none⟩,
    ⟨some 45, .move (.tmp 5), none⟩,
    ⟨some 46, .slice 22 (.tmp 44) (some (.tmp 45)) none none, none⟩,
    ⟨some 47, .call { callee := .builtin .append, args := #[.tmp 43, .tmp 46], argTypes := #[22, 22] }, none⟩,
    ⟨some 4, .assign (.tmp 47), none⟩])
  .ret)))))))
theorem hd91 : Try.f91.body.map dec = some c91 := by kernel_rfl
theorem e91 {R : AV → AH → Prop} {h : AH} (x0 x1 : AV) (H : h.wf → AI Try.prog c91 (RetQ Try.prog [.tmp 4] R) [x0, x1, un, un, un, un, un, un, un, un, un, un, un, un, un, un, un, un, un, un, un, un, un, un, un, un, un, un, un, un, un, un, un, un, un, un, un, un, un, un, un, un, un, un, un, un, un, un] h) : AC Try.prog 91 [x0, x1] h R :=
  AC_of' (rs := [.tmp 4]) Try.func91 (by kernel_rfl) hd91 Try.ntmps91 rfl H

/-- spec.shEnds -/
def c85 : IC :=
  (.seq
  (.reg [
    ⟨some 6, .assign (.const (.slice none 0 0)), none⟩])
  (.seq
  (.reg [
    ⟨some 10, .move (.tmp 0), none⟩,
    ⟨some 11, .move (.tmp 0), none⟩,
    ⟨some 12, .call { callee := .builtin .len, args := #[.tmp 11], argTypes := #[22] }, none⟩,
    ⟨some 13, .binOp .sub 3 (.tmp 12) (.const (.int .i64 1)) 3, none⟩,
    ⟨some 14, .indexAddr 22 (.tmp 10) (.tmp 13), none⟩,
    ⟨some 15, .load 3 (.tmp 14), none⟩,
    ⟨some 7, .assign (.tmp 15), none⟩])
  (.seq
  (.seq
  (.reg [
    ⟨some 16, .move (.tmp 1), none⟩,
    ⟨some 17, .binOp .eql 3 (.tmp 16) (.const (.int .i64 0)) 3, none⟩])
  (.cond (.tmp 17)
    (.seq
    (.reg [
      ⟨some 18, .move (.tmp 2), none⟩,
      ⟨some 19, .move (.tmp 7), none⟩,
      ⟨some 20, .call { callee := .value (.func 91), args := #[.tmp 18, .tmp 19], argTypes := #[22, 3] }, none⟩,
      ⟨some 6, .assign (.tmp 20), none⟩])
    .ret)
    .skip))
  (.seq
  (.seq
  (.reg [
    ⟨some 21, .move (.tmp 0), none⟩,
    ⟨some 22, .call { callee := .builtin .len, args := #[.tmp 21], argTypes := #[22] }, none⟩,
    ⟨some 23, .move (.const (.int .i64 0)), none⟩])
  (.block 0
  (.loop
    (.seq
    (.reg [
      ⟨some 24, .binOp .lss 3 (.tmp 23) (.tmp 22) 3, none⟩])
    (.seq
    (.cond (.tmp 24)
      .skip
      (.exit 0))
    (.seq
    (.block 1
    (.seq
    (.reg [
      ⟨some 25, .indexAddr 22 (.tmp 21) (.tmp 23), none⟩,
      ⟨some 26, .load 3 (.tmp 25), none⟩,
      ⟨some 9, .assign (.tmp 26), none⟩])
    (.reg [
      ⟨some 27, .move (.tmp 0), none⟩,
      ⟨some 28, .call { callee := .value (.func 88), args := #[.tmp 27], argTypes := #[22] }, none⟩,
      ⟨some 29, .move (.tmp 7), none⟩,
      ⟨some 30, .move (.tmp 9), none⟩,
      ⟨some 31, .binOp .add 3 (.tmp 29) (.tmp 30) 3, none⟩,
      ⟨some 32, .buildSlice 22 1 #[(0, .tmp 31)], none⟩,
      ⟨some 33, .call { callee := .builtin .append, args := #[.tmp 28, .tmp 32], argTypes := #[22, 22] }, none⟩,
      ⟨some 34, .move (.tmp 1), none⟩,
      ⟨some 35, .binOp .sub 3 (.tmp 34) (.const (.int .i64 1)) 3, none⟩,
      ⟨some 36, .move (.tmp 2), none⟩,
      ⟨some 37, .call { callee := .value (.func 85), args := #[.tmp 33, .tmp 35, .tmp 36], argTypes := #[22, 3, 22] }, none⟩,
      ⟨some 2, .assign (.tmp 37), none⟩])))
    (.reg [
      ⟨some 38, .binOp .add 3 (.tmp 23) (.const (.int .i64 1)) 3, none⟩,
      ⟨some 23, .move (.tmp 38), none⟩])))))))
  (.seq
  (.reg [
    ⟨some 39, .move (.tmp 2), none⟩,
    ⟨some 6, .assign (.tmp 39), none⟩])
  .ret)))))
theorem hd85 : Try.f85.body.map dec = some c85 := by kernel_rfl
theorem e85 {R : AV → AH → Prop} {h : AH} (x0 x1 x2 : AV) (H : h.wf → AI Try.prog c85 (RetQ Try.prog [.tmp 6] R) [x0, x1, x2, un, un, un, un, un, un, un, un, un, un, un, un, un, un, un, un, un, un, un, un, un, un, un, un, un, un, un, un, un, un, un, un, un, un, un, un, un] h) : AC Try.prog 85 [x0, x1, x2] h R :=
  AC_of' (rs := [.tmp 6]) Try.func85 (by kernel_rfl) hd85 Try.ntmps85 rfl H

/-- spec.StarEnds -/
def c52 : IC :=
  (.seq
  (.reg [
    ⟨some 2, .assign (.const (.slice none 0 0)), none⟩,
    ⟨some 3, .assign (.const (.bool false)), none⟩])
  (.seq
  (.seq
  (.reg [
    ⟨some 4, .move (.tmp 0), none⟩,
    ⟨some 5, .call { callee := .value (.func 62), args := #[.tmp 4, .const (.int .i64 0), .const (.int .i64 6)], argTypes := #[3, 3, 3] }, none⟩,
    ⟨some 6, .unOp .not 4 (.tmp 5), none⟩])
  (.cond (.tmp 6)
    (.seq
    (.reg [
      ⟨some 2, .assign (.const (.slice none 0 0)), none⟩,
      ⟨some 3, .assign (.const (.bool false)), none⟩])
    .ret)
    .skip))
  (.seq
  (.reg [
    ⟨some 7, .buildSlice 22 1 #[(0, .const (.int .i64 1))], none⟩,
    ⟨some 8, .move (.tmp 0), none⟩,
    ⟨some 9, .call { callee := .value (.func 85), args := #[.tmp 7, .tmp 8, .const (.slice none 0 0)], argTypes := #[22, 3, 22] }, none⟩,
    ⟨some 2, .assign (.tmp 9), none⟩,
    ⟨some 3, .assign (.const (.bool true)), none⟩])
  .ret)))
theorem hd52 : Try.f52.body.map dec = some c52 := by kernel_rfl
theorem e52 {R : AV → AH → Prop} {h : AH} (x0 : AV) (H : h.wf → AI Try.prog c52 (RetQ Try.prog [.tmp 2, .tmp 3] R) [x0, un, un, un, un, un, un, un, un, un] h) : AC Try.prog 52 [x0] h R :=
  AC_of' (rs := [.tmp 2, .tmp 3]) Try.func52 (by kernel_rfl) hd52 Try.ntmps52 rfl H

/-- impl.ends -/
def c86 : IC :=
  (.seq
  (.reg [
    ⟨some 9, .move (.tmp 1), none⟩,
    ⟨some 10, .move (.tmp 1), none⟩,
    ⟨some 11, .call { callee := .builtin .len, args := #[.tmp 10], argTypes := #[22] }, none⟩,
    ⟨some 12, .binOp .sub 3 (.tmp 11) (.const (.int .i64 1)) 3, none⟩,
    ⟨some 13, .indexAddr 22 (.tmp 9) (.tmp 12), none⟩,
    ⟨some 14, .load 3 (.tmp 13), none⟩,
    ⟨some 6, .assign (.tmp 14), none⟩])
  (.seq
  (.seq
  (.reg [
    ⟨some 15, .move (.tmp 0), none⟩,
    ⟨some 16, .binOp .eql 3 (.tmp 15) (.const (.int .i64 0)) 3, none⟩])
  (.cond (.tmp 16)
    (.seq
    (.reg [
      ⟨some 17, .move (.tmp 2), none⟩,
      ⟨some 18, .move (.tmp 6), none⟩,
      ⟨none, .mapUpdate 69 (.tmp 17) (.tmp 18) (.const (.bool true)), none⟩])
    .ret)
    .skip))
  (.seq
  (.reg [
    ⟨some 19, .move (.tmp 1), none⟩,
    ⟨some 20, .call { callee := .builtin .len, args := #[.tmp 19], argTypes := #[22] }, none⟩,
    ⟨some 21, .move (.const (.int .i64 0)), none⟩])
  (.block 0
  (.loop
    (.seq
    (.reg [
      ⟨some 22, .binOp .lss 3 (.tmp 21) (.tmp 20) 3, none⟩])
    (.seq
    (.cond (.tmp 22)
      .skip
      (.exit 0))
    (.seq
    (.block 1
    (.seq
    (.reg [
      ⟨some 23, .indexAddr 22 (.tmp 19) (.tmp 21), none⟩,
      ⟨some 24, .load 3 (.tmp 23), none⟩,
      ⟨some 8, .assign (.tmp 24), none⟩])
    (.reg [
      ⟨some 25, .move (.tmp 0), none⟩,
      ⟨some 26, .binOp .sub 3 (.tmp 25) (.const (.int .i64 1)) 3, none⟩,
      ⟨some 27, .move (.tmp 1), none⟩,
      ⟨some 28, .call { callee := .value (.func 92), args := #[.tmp 27], argTypes := #[22] }, none⟩,
      ⟨some 29, .move (.tmp 6), none⟩,
      ⟨some 30, .move (.tmp 8), none⟩,
      ⟨some 31, .binOp .add 3 (.tmp 29) (.tmp 30) 3, none⟩,
      ⟨some 32, .buildSlice 22 1 #[(0, .tmp 31)], none⟩,
      ⟨some 33, .call { callee := .builtin .append, args := #[.tmp 28, .tmp 32], argTypes := #[22, 22] }, none⟩,
      ⟨some 34, .move (.tmp 2), none⟩,
      ⟨some 35, .call { callee := .value (.func 86), args := #[.tmp 26, .tmp 33, .tmp 34], argTypes := #[3, 22, 69] }, none⟩])))
    (.reg [
      ⟨some 36, .binOp .add 3 (.tmp 21) (.const (.int .i64 1)) 3, none⟩,
      ⟨some 21, .move (.tmp 36), none⟩])))))))))
theorem hd86 : Try.f86.body.map dec = some c86 := by kernel_rfl
theorem e86 {R : AV → AH → Prop} {h : AH} (x0 x1 x2 : AV) (H : h.wf → AI Try.prog c86 (RetQ Try.prog [] R) [x0, x1, x2, un, un, un, un, un, un, un, un, un, un, un, un, un, un, un, un, un, un, un, un, un, un, un, un, un, un, un, un, un, un, un, un, un, un] h) : AC Try.prog 86 [x0, x1, x2] h R :=
  AC_of' (rs := []) Try.func86 (by kernel_rfl) hd86 Try.ntmps86 rfl H

/-- math/bits.Len32 -/
def c98 : IC :=
  (.seq
  (.reg [
    ⟨some 2, .assign (.const (.int .i64 0)), none⟩])
  (.seq
  (.seq
  (.reg [
    ⟨some 3, .move (.tmp 0), none⟩,
    ⟨some 4, .binOp .geq 75 (.tmp 3) (.const (.int .u32 65536)) 75, none⟩])
  (.cond (.tmp 4)
    (.seq
    (.reg [
      ⟨some 5, .move (.tmp 0), none⟩,
      ⟨some 6, .binOp .shr 75 (.tmp 5) (.const (.int .u64 16)) 67, none⟩,
      ⟨some 0, .assign (.tmp 6), none⟩])
    (.reg [
      ⟨some 2, .assign (.const (.int .i64 16)), none⟩]))
    .skip))
  (.seq
  (.seq
  (.reg [
    ⟨some 7, .move (.tmp 0), none⟩,
    ⟨some 8, .binOp .geq 75 (.tmp 7) (.const (.int .u32 256)) 75, none⟩])
  (.cond (.tmp 8)
    (.seq
    (.reg [
      ⟨some 9, .move (.tmp 0), none⟩,
      ⟨some 10, .binOp .shr 75 (.tmp 9) (.const (.int .u64 8)) 67, none⟩,
      ⟨some 0, .assign (.tmp 10), none⟩])
    (.reg [
      ⟨some 11, .move (.tmp 2), none⟩,
      ⟨some 12, .binOp .add 3 (.tmp 11) (.const (.int .i64 8)) 3, none⟩,
      ⟨some 2, .assign (.tmp 12), none⟩]))
    .skip))
  (.seq
  (.reg [
    ⟨some 13, .move (.tmp 2), none⟩,
    ⟨some 14, .move (.tmp 0), none⟩,
    ⟨some 15, .convert 75 5 (.tmp 14), none⟩,
    ⟨some 16, .index 9 (.const (.string { data := #[0, 1, 2, 2, 3, 3, 3, 3, 4, 4, 4, 4, 4, 4, 4, 4, 5, 5, 5, 5, 5, 5, 5, 5, 5, 5, 5, 5, 5, 5, 5, 5, 6, 6, 6, 6, 6, 6, 6, 6, 6, 6, 6, 6, 6, 6, 6, 6, 6, 6, 6, 6, 6, 6, 6, 6, 6, 6, 6, 6, 6, 6, 6, 6, 7, 7, 7, 7, 7, 7, 7, 7, 7, 7, 7, 7, 7, 7, 7, 7, 7, 7, 7, 7, 7, 7, 7, 7, 7, 7, 7, 7, 7, 7, 7, 7, 7, 7, 7, 7, 7, 7, 7, 7, 7, 7, 7, 7, 7, 7, 7, 7, 7, 7, 7, 7, 7, 7, 7, 7, 7, 7, 7, 7, 7, 7, 7, 7, 8, 8, 8, 8, 8, 8, 8, 8, 8, 8, 8, 8, 8, 8, 8, 8, 8, 8, 8, 8, 8, 8, 8, 8, 8, 8, 8, 8, 8, 8, 8, 8, 8, 8, 8, 8, 8, 8, 8, 8, 8, 8, 8, 8, 8, 8, 8, 8, 8, 8, 8, 8, 8, 8, 8, 8, 8, 8, 8, 8, 8, 8, 8, 8, 8, 8, 8, 8, 8, 8, 8, 8, 8, 8, 8, 8, 8, 8, 8, 8, 8, 8, 8, 8, 8, 8, 8, 8, 8, 8, 8, 8, 8, 8, 8, 8, 8, 8, 8, 8, 8, 8, 8, 8, 8, 8, 8, 8, 8, 8, 8, 8, 8, 8, 8, 8, 8, 8, 8, 8, 8, 8, 8, 8, 8, 8, 8, 8] })) (.tmp 15), none⟩,
    ⟨some 17, .convert 5 3 (.tmp 16), none⟩,
    ⟨some 18, .binOp .add 3 (.tmp 13) (.tmp 17) 3, none⟩,
    ⟨some 2, .assign (.tmp 18), none⟩])
  .ret))))
theorem hd98 : Try.f98.body.map dec = some c98 := by kernel_rfl
theorem e98 {R : AV → AH → Prop} {h : AH} (x0 : AV) (H : h.wf → AI Try.prog c98 (RetQ Try.prog [.tmp 2] R) [x0, un, un, un, un, un, un, un, un, un, un, un, un, un, un, un, un, un, un] h) : AC Try.prog 98 [x0] h R :=
  AC_of' (rs := [.tmp 2]) Try.func98 (by kernel_rfl) hd98 Try.ntmps98 rfl H

/-- math/bits.Len64 -/
def c99 : IC :=
  (.seq
  (.reg [
    ⟨some 2, .assign (.const (.int .i64 0)), none⟩])
  (.seq
  (.seq
  (.reg [
    ⟨some 3, .move (.tmp 0), none⟩,
    ⟨some 4, .binOp .geq 59 (.tmp 3) (.const (.int .u64 4294967296)) 59, none⟩])
  (.cond (.tmp 4)
    (.seq
    (.reg [
      ⟨some 5, .move (.tmp 0), none⟩,
      ⟨some 6, .binOp .shr 59 (.tmp 5) (.const (.int .u64 32)) 67, none⟩,
      ⟨some 0, .assign (.tmp 6), none⟩])
    (.reg [
      ⟨some 2, .assign (.const (.int .i64 32)), none⟩]))
    .skip))
  (.seq
  (.seq
  (.reg [
    ⟨some 7, .move (.tmp 0), none⟩,
    ⟨some 8, .binOp .geq 59 (.tmp 7) (.const (.int .u64 65536)) 59, none⟩])
  (.cond (.tmp 8)
    (.seq
    (.reg [
      ⟨some 9, .move (.tmp 0), none⟩,
      ⟨some 10, .binOp .shr 59 (.tmp 9) (.const (.int .u64 16)) 67, none⟩,
      ⟨some 0, .assign (.tmp 10), none⟩])
    (.reg [
      ⟨some 11, .move (.tmp 2), none⟩,
      ⟨some 12, .binOp .add 3 (.tmp 11) (.const (.int .i64 16)) 3, none⟩,
      ⟨some 2, .assign (.tmp 12), none⟩]))
    .skip))
  (.seq
  (.seq
  (.reg [
    ⟨some 13, .move (.tmp 0), none⟩,
    ⟨some 14, .binOp .geq 59 (.tmp 13) (.const (.int .u64 256)) 59, none⟩])
  (.cond (.tmp 14)
    (.seq
    (.reg [
      ⟨some 15, .move (.tmp 0), none⟩,
      ⟨some 16, .binOp .shr 59 (.tmp 15) (.const (.int .u64 8)) 67, none⟩,
      ⟨some 0, .assign (.tmp 16), none⟩])
    (.reg [
      ⟨some 17, .move (.tmp 2), none⟩,
      ⟨some 18, .binOp .add 3 (.tmp 17) (.const (.int .i64 8)) 3, none⟩,
      ⟨some 2, .assign (.tmp 18), none⟩]))
    .skip))
  (.seq
  (.reg [
    ⟨some 19, .move (.tmp 2), none⟩,
    ⟨some 20, .move (.tmp 0), none⟩,
    ⟨some 21, .convert 59 5 (.tmp 20), none⟩,
    ⟨some 22, .index 9 (.const (.string { data := #[0, 1, 2, 2, 3, 3, 3, 3, 4, 4, 4, 4, 4, 4, 4, 4, 5, 5, 5, 5, 5, 5, 5, 5, 5, 5, 5, 5, 5, 5, 5, 5, 6, 6, 6, 6, 6, 6, 6, 6, 6, 6, 6, 6, 6, 6, 6, 6, 6, 6, 6, 6, 6, 6, 6, 6, 6, 6, 6, 6, 6, 6, 6, 6, 7, 7, 7, 7, 7, 7, 7, 7, 7, 7, 7, 7, 7, 7, 7, 7, 7, 7, 7, 7, 7, 7, 7, 7, 7, 7, 7, 7, 7, 7, 7, 7, 7, 7, 7, 7, 7, 7, 7, 7, 7, 7, 7, 7, 7, 7, 7, 7, 7, 7, 7, 7, 7, 7, 7, 7, 7, 7, 7, 7, 7, 7, 7, 7, 8, 8, 8, 8, 8, 8, 8, 8, 8, 8, 8, 8, 8, 8, 8, 8, 8, 8, 8, 8, 8, 8, 8, 8, 8, 8, 8, 8, 8, 8, 8, 8, 8, 8, 8, 8, 8, 8, 8, 8, 8, 8, 8, 8, 8, 8, 8, 8, 8, 8, 8, 8, 8, 8, 8, 8, 8, 8, 8, 8, 8, 8, 8, 8, 8, 8, 8, 8, 8, 8, 8, 8, 8, 8, 8, 8, 8, 8, 8, 8, 8, 8, 8, 8, 8, 8, 8, 8, 8, 8, 8, 8, 8, 8, 8, 8, 8, 8, 8, 8, 8, 8, 8, 8, 8, 8, 8, 8, 8, 8, 8, 8, 8, 8, 8, 8, 8, 8, 8, 8, 8, 8, 8, 8, 8, 8, 8, 8] })) (.tmp 21), none⟩,
    ⟨some 23, .convert 5 3 (.tmp 22), none⟩,
    ⟨some 24, .binOp .add 3 (.tmp 19) (.tmp 23) 3, none⟩,
    ⟨some 2, .assign (.tmp 24), none⟩])
  .ret)))))
theorem hd99 : Try.f99.body.map dec = some c99 := by kernel_rfl
theorem e99 {R : AV → AH → Prop} {h : AH} (x0 : AV) (H : h.wf → AI Try.prog c99 (RetQ Try.prog [.tmp 2] R) [x0, un, un, un, un, un, un, un, un, un, un, un, un, un, un, un, un, un, un, un, un, un, un, un, un] h) : AC Try.prog 99 [x0] h R :=
  AC_of' (rs := [.tmp 2]) Try.func99 (by kernel_rfl) hd99 Try.ntmps99 rfl H

/-- math/bits.Len -/
def c83 : IC :=
  (.seq
  (.reg [
    ⟨some 2, .assign (.const (.int .i64 0)), none⟩])
  (.seq
  (.cond (.const (.bool false))
    (.seq
    (.reg [
      ⟨some 3, .move (.tmp 0), none⟩,
      ⟨some 4, .convert 67 75 (.tmp 3), none⟩,
      ⟨some 5, .call { callee := .value (.func 98), args := #[.tmp 4], argTypes := #[75] }, none⟩,
      ⟨some 2, .assign (.tmp 5), none⟩])
    .ret)
    .skip)
  (.seq
  (.reg [
    ⟨some 6, .move (.tmp 0), none⟩,
    ⟨some 7, .call { callee := .value (.func 99), args := #[.tmp 6], argTypes := #[59] }, none⟩,
    ⟨some 2, .assign (.tmp 7), none⟩])
  .ret)))
theorem hd83 : Try.f83.body.map dec = some c83 := by kernel_rfl
theorem e83 {R : AV → AH → Prop} {h : AH} (x0 : AV) (H : h.wf → AI Try.prog c83 (RetQ Try.prog [.tmp 2] R) [x0, un, un, un, un, un, un, un] h) : AC Try.prog 83 [x0] h R :=
  AC_of' (rs := [.tmp 2]) Try.func83 (by kernel_rfl) hd83 Try.ntmps83 rfl H

/-- cmp.isNaN[int] -/
def c117 : IC :=
  (.seq
  (.reg [
    ⟨some 2, .assign (.const (.bool false)), none⟩])
  (.seq
  (.reg [
    ⟨some 3, .move (.tmp 0), none⟩,
    ⟨some 4, .move (.tmp 0), none⟩,
    ⟨some 5, .binOp .neq 3 (.tmp 3) (.tmp 4) 3, none⟩,
    ⟨some 2, .assign (.tmp 5), none⟩])
  .ret))
theorem hd117 : Try.f117.body.map dec = some c117 := by kernel_rfl
theorem e117 {R : AV → AH → Prop} {h : AH} (x0 : AV) (H : h.wf → AI Try.prog c117 (RetQ Try.prog [.tmp 2] R) [x0, un, un, un, un, un] h) : AC Try.prog 117 [x0] h R :=
  AC_of' (rs := [.tmp 2]) Try.func117 (by kernel_rfl) hd117 Try.ntmps117 rfl H

/-- cmp.Less[int] -/
def c109 : IC :=
  (.seq
  (.reg [
    ⟨some 4, .assign (.const (.bool false)), none⟩])
  (.seq
  (.reg [
    ⟨some 5, .move (.tmp 0), none⟩,
    ⟨some 6, .call { callee := .value (.func 117), args := #[.tmp 5], argTypes := #[3] }, none⟩,
    ⟨some 7, .move (.tmp 6), none⟩,
    ⟨some 8, .move (.tmp 1), some (7, true)⟩,
    ⟨some 9, .call { callee := .value (.func 117), args := #[.tmp 8], argTypes := #[3] }, some (7, true)⟩,
    ⟨some 10, .unOp .not 4 (.tmp 9), some (7, true)⟩,
    ⟨some 11, .pick (.tmp 7) (.tmp 10) (.const (.bool false)), none⟩,
    ⟨some 12, .move (.tmp 11), none⟩,
    ⟨some 13, .move (.tmp 0), some (12, false)⟩,
    ⟨some 14, .move (.tmp 1), some (12, false)⟩,
    ⟨some 15, .binOp .lss 3 (.tmp 13) (.tmp 14) 3, some (12, false)⟩,
    ⟨some 16, .pick (.tmp 12) (.const (.bool true)) (.tmp 15), none⟩,
    ⟨some 4, .assign (.tmp 16), none⟩])
  .ret))
theorem hd109 : Try.f109.body.map dec = some c109 := by kernel_rfl
theorem e109 {R : AV → AH → Prop} {h : AH} (x0 x1 : AV) (H : h.wf → AI Try.prog c109 (RetQ Try.prog [.tmp 4] R) [x0, x1, un, un, un, un, un, un, un, un, un, un, un, un, un, un, un] h) : AC Try.prog 109 [x0, x1] h R :=
  AC_of' (rs := [.tmp 4]) Try.func109 (by kernel_rfl) hd109 Try.ntmps109 rfl H

noncomputable def rg103_0 : Array Oper := rawAt Try.f103 0
-- NO ORDER
noncomputable def rg103_1 : Array Oper := rawAt Try.f103 1
/-- slices.insertionSortOrdered[int] -/
noncomputable def c103 : IC :=
  (.seq
  (.reg [
    ⟨some 8, .move (.tmp 1), none⟩,
    ⟨some 9, .binOp .add 3 (.tmp 8) (.const (.int .i64 1)) 3, none⟩,
    ⟨some 6, .assign (.tmp 9), none⟩])
  (.block 0
  (.loop
    (.seq
    (.seq
    (.reg [
      ⟨some 10, .move (.tmp 6), none⟩,
      ⟨some 11, .move (.tmp 2), none⟩,
      ⟨some 12, .binOp .lss 3 (.tmp 10) (.tmp 11) 3, none⟩])
    (.cond (.tmp 12)
      .skip
      (.exit 0)))
    (.seq
    (.block 1
    (.seq
    (.reg [
      ⟨some 15, .move (.tmp 6), none⟩,
      ⟨some 7, .assign (.tmp 15), none⟩])
    (.block 2
    (.loop
      (.seq
      (.seq
      (.raw (.region 4 rg103_0 true))
      (.cond (.tmp 30)
        .skip
        (.exit 2)))
      (.seq
      (.block 3
      (.raw (.region 6 rg103_1 true)))
      (.reg [
        ⟨some 31, .move (.tmp 7), none⟩,
        ⟨some 32, .binOp .sub 3 (.tmp 31) (.const (.int .i64 1)) 3, none⟩,
        ⟨some 7, .assign (.tmp 32), none⟩])))))))
    (.reg [
      ⟨some 13, .move (.tmp 6), none⟩,
      ⟨some 14, .binOp .add 3 (.tmp 13) (.const (.int .i64 1)) 3, none⟩,
      ⟨some 6, .assign (.tmp 14), none⟩]))))))
theorem hd103 : Try.f103.body.map dec = some c103 := by kernel_rfl
theorem e103 {R : AV → AH → Prop} {h : AH} (x0 x1 x2 : AV) (H : h.wf → AI Try.prog c103 (RetQ Try.prog [] R) [x0, x1, x2, un, un, un, un, un, un, un, un, un, un, un, un, un, un, un, un, un, un, un, un, un, un, un, un, un, un, un, un, un, un, un, un, un, un, un, un, un, un, un, un, un, un, un, un, un, un] h) : AC Try.prog 103 [x0, x1, x2] h R :=
  AC_of' (rs := []) Try.func103 (by kernel_rfl) hd103 Try.ntmps103 rfl H
theorem dz103_0 {h0 : AH} {L : List It} {Q : Exit → List AV → List It → Prop} {a : List AV} {id : Nat} (H : LX Try.prog ⟨[], []⟩ h0 L L (.c (⟨some 16, .move (.tmp 7), none⟩, .p) <| .c (⟨some 17, .move (.tmp 1), none⟩, .p) <| .c (⟨some 18, .binOp .gtr 3 (.tmp 16) (.tmp 17) 3, none⟩, .p) <| .c (⟨some 19, .move (.tmp 18), none⟩, .p) <| .c (⟨some 20, .move (.tmp 0), some (19, true)⟩, .p) <| .c (⟨some 21, .move (.tmp 7), some (19, true)⟩, .p) <| .c (⟨some 22, .indexAddr 22 (.tmp 20) (.tmp 21), some (19, true)⟩, .p) <| .c (⟨some 23, .load 3 (.tmp 22), some (19, true)⟩, .l) <| .c (⟨some 24, .move (.tmp 0), some (19, true)⟩, .p) <| .c (⟨some 25, .move (.tmp 7), some (19, true)⟩, .p) <| .c (⟨some 26, .binOp .sub 3 (.tmp 25) (.const (.int .i64 1)) 3, some (19, true)⟩, .p) <| .c (⟨some 27, .indexAddr 22 (.tmp 24) (.tmp 26), some (19, true)⟩, .p) <| .c (⟨some 28, .load 3 (.tmp 27), some (19, true)⟩, .l) <| .c (⟨some 29, .call { callee := .value (.func 109), args := #[.tmp 23, .tmp 28], argTypes := #[3, 3] }, some (19, true)⟩, .e) <| .c (⟨some 30, .pick (.tmp 19) (.tmp 29) (.const (.bool false)), none⟩, .p) <| .n) Q a) : LI Try.prog h0 L (.raw (.region id rg103_0 true)) Q a :=
  LI_draw (.c (0, .p) <| .c (1, .p) <| .c (2, .p) <| .c (3, .p) <| .c (4, .p) <| .c (5, .p) <| .c (6, .p) <| .c (7, .l) <| .c (8, .p) <| .c (9, .p) <| .c (10, .p) <| .c (11, .p) <| .c (12, .l) <| .c (13, .e) <| .c (14, .p) <| .n) [] (by kernel_rfl) (by kernel_rfl) (by kernel_rfl) H
theorem dy103_0 {h0 : AH} {L : List It} {Q : Exit → List AV → List It → Prop} {a : List AV} {id : Nat} (H : LX Try.prog ⟨[13], []⟩ h0 L L (.c (⟨some 16, .move (.tmp 7), none⟩, .p) <| .c (⟨some 17, .move (.tmp 1), none⟩, .p) <| .c (⟨some 18, .binOp .gtr 3 (.tmp 16) (.tmp 17) 3, none⟩, .p) <| .c (⟨some 19, .move (.tmp 18), none⟩, .p) <| .c (⟨some 20, .move (.tmp 0), some (19, true)⟩, .p) <| .c (⟨some 21, .move (.tmp 7), some (19, true)⟩, .p) <| .c (⟨some 22, .indexAddr 22 (.tmp 20) (.tmp 21), some (19, true)⟩, .p) <| .c (⟨some 23, .load 3 (.tmp 22), some (19, true)⟩, .l) <| .c (⟨some 24, .move (.tmp 0), some (19, true)⟩, .p) <| .c (⟨some 25, .move (.tmp 7), some (19, true)⟩, .p) <| .c (⟨some 26, .binOp .sub 3 (.tmp 25) (.const (.int .i64 1)) 3, some (19, true)⟩, .p) <| .c (⟨some 27, .indexAddr 22 (.tmp 24) (.tmp 26), some (19, true)⟩, .p) <| .c (⟨some 28, .load 3 (.tmp 27), some (19, true)⟩, .l) <| .c (⟨some 29, .call { callee := .value (.func 109), args := #[.tmp 23, .tmp 28], argTypes := #[3, 3] }, some (19, true)⟩, .f) <| .c (⟨some 30, .pick (.tmp 19) (.tmp 29) (.const (.bool false)), none⟩, .p) <| .n) Q a) : LI Try.prog h0 L (.raw (.region id rg103_0 true)) Q a :=
  LI_draw (.c (0, .p) <| .c (1, .p) <| .c (2, .p) <| .c (3, .p) <| .c (4, .p) <| .c (5, .p) <| .c (6, .p) <| .c (7, .l) <| .c (8, .p) <| .c (9, .p) <| .c (10, .p) <| .c (11, .p) <| .c (12, .l) <| .c (13, .f) <| .c (14, .p) <| .n) [13] (by kernel_rfl) (by kernel_rfl) (by kernel_rfl) H
theorem dz103_1 {h0 : AH} {L : List It} {Q : Exit → List AV → List It → Prop} {a : List AV} {id : Nat} (H : LX Try.prog ⟨[15, 17], []⟩ h0 L L (.c (⟨some 33, .move (.tmp 0), none⟩, .p) <| .c (⟨some 34, .move (.tmp 7), none⟩, .p) <| .c (⟨some 35, .move (.tmp 0), none⟩, .p) <| .c (⟨some 36, .move (.tmp 7), none⟩, .p) <| .c (⟨some 37, .binOp .sub 3 (.tmp 36) (.const (.int .i64 1)) 3, none⟩, .p) <| .c (⟨some 38, .move (.tmp 0), none⟩, .p) <| .c (⟨some 39, .move (.tmp 7), none⟩, .p) <| .c (⟨some 40, .binOp .sub 3 (.tmp 39) (.const (.int .i64 1)) 3, none⟩, .p) <| .c (⟨some 41, .indexAddr 22 (.tmp 38) (.tmp 40), none⟩, .p) <| .c (⟨some 42, .load 3 (.tmp 41), none⟩, .l) <| .c (⟨some 43, .move (.tmp 0), none⟩, .p) <| .c (⟨some 44, .move (.tmp 7), none⟩, .p) <| .c (⟨some 45, .indexAddr 22 (.tmp 43) (.tmp 44), none⟩, .p) <| .c (⟨some 46, .load 3 (.tmp 45), none⟩, .l) <| .c (⟨some 47, .indexAddr 22 (.tmp 33) (.tmp 34), none⟩, .p) <| .c (⟨none, .store 3 (.tmp 47) (.tmp 42), none⟩, .f) <| .c (⟨some 48, .indexAddr 22 (.tmp 35) (.tmp 37), none⟩, .p) <| .c (⟨none, .store 3 (.tmp 48) (.tmp 46), none⟩, .f) <| .n) Q a) : LI Try.prog h0 L (.raw (.region id rg103_1 true)) Q a :=
  LI_draw (.c (0, .p) <| .c (1, .p) <| .c (2, .p) <| .c (3, .p) <| .c (4, .p) <| .c (5, .p) <| .c (6, .p) <| .c (7, .p) <| .c (8, .p) <| .c (9, .l) <| .c (10, .p) <| .c (11, .p) <| .c (12, .p) <| .c (13, .l) <| .c (14, .p) <| .c (15, .f) <| .c (16, .p) <| .c (17, .f) <| .n) [15, 17] (by kernel_rfl) (by kernel_rfl) (by kernel_rfl) H
theorem dr103_1 (m : Nat) {Q : Exit → List AV → AH → Prop} {a : List AV} {h : AH} {id : Nat} (H : AX Try.prog m h [(⟨some 33, .move (.tmp 0), none⟩, true),
  (⟨some 34, .move (.tmp 7), none⟩, true),
  (⟨some 35, .move (.tmp 0), none⟩, true),
  (⟨some 36, .move (.tmp 7), none⟩, true),
  (⟨some 37, .binOp .sub 3 (.tmp 36) (.const (.int .i64 1)) 3, none⟩, true),
  (⟨some 38, .move (.tmp 0), none⟩, true),
  (⟨some 39, .move (.tmp 7), none⟩, true),
  (⟨some 40, .binOp .sub 3 (.tmp 39) (.const (.int .i64 1)) 3, none⟩, true),
  (⟨some 41, .indexAddr 22 (.tmp 38) (.tmp 40), none⟩, true),
  (⟨some 42, .load 3 (.tmp 41), none⟩, true),
  (⟨some 43, .move (.tmp 0), none⟩, true),
  (⟨some 44, .move (.tmp 7), none⟩, true),
  (⟨some 45, .indexAddr 22 (.tmp 43) (.tmp 44), none⟩, true),
  (⟨some 46, .load 3 (.tmp 45), none⟩, true),
  (⟨some 47, .indexAddr 22 (.tmp 33) (.tmp 34), none⟩, true),
  (⟨none, .store 3 (.tmp 47) (.tmp 42), none⟩, false),
  (⟨some 48, .indexAddr 22 (.tmp 35) (.tmp 37), none⟩, true),
  (⟨none, .store 3 (.tmp 48) (.tmp 46), none⟩, false)] (fun a' h' => Q .normal a' h') a h) : AI Try.prog (.raw (.region id rg103_1 true)) Q a h :=
  AI_draw [(0, true), (1, true), (2, true), (3, true), (4, true), (5, true), (6, true), (7, true), (8, true), (9, true), (10, true), (11, true), (12, true), (13, true), (14, true), (15, false), (16, true), (17, false)] m (by kernel_rfl) (by kernel_rfl) (by kernel_rfl) H

noncomputable def rg112_0 : Array Oper := rawAt Try.f112 0
-- NO ORDER
noncomputable def rg112_1 : Array Oper := rawAt Try.f112 1
noncomputable def rg112_2 : Array Oper := rawAt Try.f112 2
/-- slices.siftDownOrdered[int] -/
noncomputable def c112 : IC :=
  (.seq
  (.reg [
    ⟨some 10, .move (.tmp 1), none⟩,
    ⟨some 8, .assign (.tmp 10), none⟩])
  (.block 0
  (.loop
    (.block 1
    (.seq
    (.reg [
      ⟨some 11, .move (.tmp 8), none⟩,
      ⟨some 12, .binOp .mul 3 (.const (.int .i64 2)) (.tmp 11) 3, none⟩,
      ⟨some 13, .binOp .add 3 (.tmp 12) (.const (.int .i64 1)) 3, none⟩,
      ⟨some 9, .assign (.tmp 13), none⟩])
    (.seq
    (.seq
    (.reg [
      ⟨some 14, .move (.tmp 9), none⟩,
      ⟨some 15, .move (.tmp 2), none⟩,
      ⟨some 16, .binOp .geq 3 (.tmp 14) (.tmp 15) 3, none⟩])
    (.cond (.tmp 16)
      (.exit 0)
      .skip))
    (.seq
    (.seq
    (.raw (.region 3 rg112_0 true))
    (.cond (.tmp 36)
      (.reg [
        ⟨some 37, .move (.tmp 9), none⟩,
        ⟨some 38, .binOp .add 3 (.tmp 37) (.const (.int .i64 1)) 3, none⟩,
        ⟨some 9, .assign (.tmp 38), none⟩])
      .skip))
    (.seq
    (.seq
    (.raw (.region 5 rg112_1 true))
    (.cond (.tmp 52)
      .ret
      .skip))
    (.seq
    (.raw (.region 6 rg112_2 true))
    (.reg [
      ⟨some 75, .move (.tmp 9), none⟩,
      ⟨some 8, .assign (.tmp 75), none⟩]))))))))))
theorem hd112 : Try.f112.body.map dec = some c112 := by kernel_rfl
theorem e112 {R : AV → AH → Prop} {h : AH} (x0 x1 x2 x3 : AV) (H : h.wf → AI Try.prog c112 (RetQ Try.prog [] R) [x0, x1, x2, x3, un, un, un, un, un, un, un, un, un, un, un, un, un, un, un, un, un, un, un, un, un, un, un, un, un, un, un, un, un, un, un, un, un, un, un, un, un, un, un, un, un, un, un, un, un, un, un, un, un, un, un, un, un, un, un, un, un, un, un, un, un, un, un, un, un, un, un, un, un, un, un, un] h) : AC Try.prog 112 [x0, x1, x2, x3] h R :=
  AC_of' (rs := []) Try.func112 (by kernel_rfl) hd112 Try.ntmps112 rfl H
theorem dz112_0 {h0 : AH} {L : List It} {Q : Exit → List AV → List It → Prop} {a : List AV} {id : Nat} (H : LX Try.prog ⟨[], []⟩ h0 L L (.c (⟨some 17, .move (.tmp 9), none⟩, .p) <| .c (⟨some 18, .binOp .add 3 (.tmp 17) (.const (.int .i64 1)) 3, none⟩, .p) <| .c (⟨some 19, .move (.tmp 2), none⟩, .p) <| .c (⟨some 20, .binOp .lss 3 (.tmp 18) (.tmp 19) 3, none⟩, .p) <| .c (⟨some 21, .move (.tmp 20), none⟩, .p) <| .c (⟨some 22, .move (.tmp 0), some (21, true)⟩, .p) <| .c (⟨some 23, .move (.tmp 3), some (21, true)⟩, .p) <| .c (⟨some 24, .move (.tmp 9), some (21, true)⟩, .p) <| .c (⟨some 25, .binOp .add 3 (.tmp 23) (.tmp 24) 3, some (21, true)⟩, .p) <| .c (⟨some 26, .indexAddr 22 (.tmp 22) (.tmp 25), some (21, true)⟩, .p) <| .c (⟨some 27, .load 3 (.tmp 26), some (21, true)⟩, .l) <| .c (⟨some 28, .move (.tmp 0), some (21, true)⟩, .p) <| .c (⟨some 29, .move (.tmp 3), some (21, true)⟩, .p) <| .c (⟨some 30, .move (.tmp 9), some (21, true)⟩, .p) <| .c (⟨some 31, .binOp .add 3 (.tmp 29) (.tmp 30) 3, some (21, true)⟩, .p) <| .c (⟨some 32, .binOp .add 3 (.tmp 31) (.const (.int .i64 1)) 3, some (21, true)⟩, .p) <| .c (⟨some 33, .indexAddr 22 (.tmp 28) (.tmp 32), some (21, true)⟩, .p) <| .c (⟨some 34, .load 3 (.tmp 33), some (21, true)⟩, .l) <| .c (⟨some 35, .call { callee := .value (.func 109), args := #[.tmp 27, .tmp 34], argTypes := #[3, 3] }, some (21, true)⟩, .e) <| .c (⟨some 36, .pick (.tmp 21) (.tmp 35) (.const (.bool false)), none⟩, .p) <| .n) Q a) : LI Try.prog h0 L (.raw (.region id rg112_0 true)) Q a :=
  LI_draw (.c (0, .p) <| .c (1, .p) <| .c (2, .p) <| .c (3, .p) <| .c (4, .p) <| .c (5, .p) <| .c (6, .p) <| .c (7, .p) <| .c (8, .p) <| .c (9, .p) <| .c (10, .l) <| .c (11, .p) <| .c (12, .p) <| .c (13, .p) <| .c (14, .p) <| .c (15, .p) <| .c (16, .p) <| .c (17, .l) <| .c (18, .e) <| .c (19, .p) <| .n) [] (by kernel_rfl) (by kernel_rfl) (by kernel_rfl) H
theorem dy112_0 {h0 : AH} {L : List It} {Q : Exit → List AV → List It → Prop} {a : List AV} {id : Nat} (H : LX Try.prog ⟨[18], []⟩ h0 L L (.c (⟨some 17, .move (.tmp 9), none⟩, .p) <| .c (⟨some 18, .binOp .add 3 (.tmp 17) (.const (.int .i64 1)) 3, none⟩, .p) <| .c (⟨some 19, .move (.tmp 2), none⟩, .p) <| .c (⟨some 20, .binOp .lss 3 (.tmp 18) (.tmp 19) 3, none⟩, .p) <| .c (⟨some 21, .move (.tmp 20), none⟩, .p) <| .c (⟨some 22, .move (.tmp 0), some (21, true)⟩, .p) <| .c (⟨some 23, .move (.tmp 3), some (21, true)⟩, .p) <| .c (⟨some 24, .move (.tmp 9), some (21, true)⟩, .p) <| .c (⟨some 25, .binOp .add 3 (.tmp 23) (.tmp 24) 3, some (21, true)⟩, .p) <| .c (⟨some 26, .indexAddr 22 (.tmp 22) (.tmp 25), some (21, true)⟩, .p) <| .c (⟨some 27, .load 3 (.tmp 26), some (21, true)⟩, .l) <| .c (⟨some 28, .move (.tmp 0), some (21, true)⟩, .p) <| .c (⟨some 29, .move (.tmp 3), some (21, true)⟩, .p) <| .c (⟨some 30, .move (.tmp 9), some (21, true)⟩, .p) <| .c (⟨some 31, .binOp .add 3 (.tmp 29) (.tmp 30) 3, some (21, true)⟩, .p) <| .c (⟨some 32, .binOp .add 3 (.tmp 31) (.const (.int .i64 1)) 3, some (21, true)⟩, .p) <| .c (⟨some 33, .indexAddr 22 (.tmp 28) (.tmp 32), some (21, true)⟩, .p) <| .c (⟨some 34, .load 3 (.tmp 33), some (21, true)⟩, .l) <| .c (⟨some 35, .call { callee := .value (.func 109), args := #[.tmp 27, .tmp 34], argTypes := #[3, 3] }, some (21, true)⟩, .f) <| .c (⟨some 36, .pick (.tmp 21) (.tmp 35) (.const (.bool false)), none⟩, .p) <| .n) Q a) : LI Try.prog h0 L (.raw (.region id rg112_0 true)) Q a :=
  LI_draw (.c (0, .p) <| .c (1, .p) <| .c (2, .p) <| .c (3, .p) <| .c (4, .p) <| .c (5, .p) <| .c (6, .p) <| .c (7, .p) <| .c (8, .p) <| .c (9, .p) <| .c (10, .l) <| .c (11, .p) <| .c (12, .p) <| .c (13, .p) <| .c (14, .p) <| .c (15, .p) <| .c (16, .p) <| .c (17, .l) <| .c (18, .f) <| .c (19, .p) <| .n) [18] (by kernel_rfl) (by kernel_rfl) (by kernel_rfl) H
theorem dz112_1 {h0 : AH} {L : List It} {Q : Exit → List AV → List It → Prop} {a : List AV} {id : Nat} (H : LX Try.prog ⟨[], []⟩ h0 L L (.c (⟨some 39, .move (.tmp 0), none⟩, .p) <| .c (⟨some 40, .move (.tmp 3), none⟩, .p) <| .c (⟨some 41, .move (.tmp 8), none⟩, .p) <| .c (⟨some 42, .binOp .add 3 (.tmp 40) (.tmp 41) 3, none⟩, .p) <| .c (⟨some 43, .indexAddr 22 (.tmp 39) (.tmp 42), none⟩, .p) <| .c (⟨some 44, .load 3 (.tmp 43), none⟩, .l) <| .c (⟨some 45, .move (.tmp 0), none⟩, .p) <| .c (⟨some 46, .move (.tmp 3), none⟩, .p) <| .c (⟨some 47, .move (.tmp 9), none⟩, .p) <| .c (⟨some 48, .binOp .add 3 (.tmp 46) (.tmp 47) 3, none⟩, .p) <| .c (⟨some 49, .indexAddr 22 (.tmp 45) (.tmp 48), none⟩, .p) <| .c (⟨some 50, .load 3 (.tmp 49), none⟩, .l) <| .c (⟨some 51, .call { callee := .value (.func 109), args := #[.tmp 44, .tmp 50], argTypes := #[3, 3] }, none⟩, .e) <| .c (⟨some 52, .unOp .not 4 (.tmp 51), none⟩, .p) <| .n) Q a) : LI Try.prog h0 L (.raw (.region id rg112_1 true)) Q a :=
  LI_draw (.c (0, .p) <| .c (1, .p) <| .c (2, .p) <| .c (3, .p) <| .c (4, .p) <| .c (5, .l) <| .c (6, .p) <| .c (7, .p) <| .c (8, .p) <| .c (9, .p) <| .c (10, .p) <| .c (11, .l) <| .c (12, .e) <| .c (13, .p) <| .n) [] (by kernel_rfl) (by kernel_rfl) (by kernel_rfl) H
theorem dy112_1 {h0 : AH} {L : List It} {Q : Exit → List AV → List It → Prop} {a : List AV} {id : Nat} (H : LX Try.prog ⟨[12], []⟩ h0 L L (.c (⟨some 39, .move (.tmp 0), none⟩, .p) <| .c (⟨some 40, .move (.tmp 3), none⟩, .p) <| .c (⟨some 41, .move (.tmp 8), none⟩, .p) <| .c (⟨some 42, .binOp .add 3 (.tmp 40) (.tmp 41) 3, none⟩, .p) <| .c (⟨some 43, .indexAddr 22 (.tmp 39) (.tmp 42), none⟩, .p) <| .c (⟨some 44, .load 3 (.tmp 43), none⟩, .l) <| .c (⟨some 45, .move (.tmp 0), none⟩, .p) <| .c (⟨some 46, .move (.tmp 3), none⟩, .p) <| .c (⟨some 47, .move (.tmp 9), none⟩, .p) <| .c (⟨some 48, .binOp .add 3 (.tmp 46) (.tmp 47) 3, none⟩, .p) <| .c (⟨some 49, .indexAddr 22 (.tmp 45) (.tmp 48), none⟩, .p) <| .c (⟨some 50, .load 3 (.tmp 49), none⟩, .l) <| .c (⟨some 51, .call { callee := .value (.func 109), args := #[.tmp 44, .tmp 50], argTypes := #[3, 3] }, none⟩, .f) <| .c (⟨some 52, .unOp .not 4 (.tmp 51), none⟩, .p) <| .n) Q a) : LI Try.prog h0 L (.raw (.region id rg112_1 true)) Q a :=
  LI_draw (.c (0, .p) <| .c (1, .p) <| .c (2, .p) <| .c (3, .p) <| .c (4, .p) <| .c (5, .l) <| .c (6, .p) <| .c (7, .p) <| .c (8, .p) <| .c (9, .p) <| .c (10, .p) <| .c (11, .l) <| .c (12, .f) <| .c (13, .p) <| .n) [12] (by kernel_rfl) (by kernel_rfl) (by kernel_rfl) H
theorem dr112_1 (m : Nat) {Q : Exit → List AV → AH → Prop} {a : List AV} {h : AH} {id : Nat} (H : AX Try.prog m h [(⟨some 39, .move (.tmp 0), none⟩, true),
  (⟨some 40, .move (.tmp 3), none⟩, true),
  (⟨some 41, .move (.tmp 8), none⟩, true),
  (⟨some 42, .binOp .add 3 (.tmp 40) (.tmp 41) 3, none⟩, true),
  (⟨some 43, .indexAddr 22 (.tmp 39) (.tmp 42), none⟩, true),
  (⟨some 44, .load 3 (.tmp 43), none⟩, true),
  (⟨some 45, .move (.tmp 0), none⟩, true),
  (⟨some 46, .move (.tmp 3), none⟩, true),
  (⟨some 47, .move (.tmp 9), none⟩, true),
  (⟨some 48, .binOp .add 3 (.tmp 46) (.tmp 47) 3, none⟩, true),
  (⟨some 49, .indexAddr 22 (.tmp 45) (.tmp 48), none⟩, true),
  (⟨some 50, .load 3 (.tmp 49), none⟩, true),
  (⟨some 51, .call { callee := .value (.func 109), args := #[.tmp 44, .tmp 50], argTypes := #[3, 3] }, none⟩, false),
  (⟨some 52, .unOp .not 4 (.tmp 51), none⟩, true)] (fun a' h' => Q .normal a' h') a h) : AI Try.prog (.raw (.region id rg112_1 true)) Q a h :=
  AI_draw [(0, true), (1, true), (2, true), (3, true), (4, true), (5, true), (6, true), (7, true), (8, true), (9, true), (10, true), (11, true), (12, false), (13, true)] m (by kernel_rfl) (by kernel_rfl) (by kernel_rfl) H
theorem dz112_2 {h0 : AH} {L : List It} {Q : Exit → List AV → List It → Prop} {a : List AV} {id : Nat} (H : LX Try.prog ⟨[21, 23], []⟩ h0 L L (.c (⟨some 53, .move (.tmp 0), none⟩, .p) <| .c (⟨some 54, .move (.tmp 3), none⟩, .p) <| .c (⟨some 55, .move (.tmp 8), none⟩, .p) <| .c (⟨some 56, .binOp .add 3 (.tmp 54) (.tmp 55) 3, none⟩, .p) <| .c (⟨some 57, .move (.tmp 0), none⟩, .p) <| .c (⟨some 58, .move (.tmp 3), none⟩, .p) <| .c (⟨some 59, .move (.tmp 9), none⟩, .p) <| .c (⟨some 60, .binOp .add 3 (.tmp 58) (.tmp 59) 3, none⟩, .p) <| .c (⟨some 61, .move (.tmp 0), none⟩, .p) <| .c (⟨some 62, .move (.tmp 3), none⟩, .p) <| .c (⟨some 63, .move (.tmp 9), none⟩, .p) <| .c (⟨some 64, .binOp .add 3 (.tmp 62) (.tmp 63) 3, none⟩, .p) <| .c (⟨some 65, .indexAddr 22 (.tmp 61) (.tmp 64), none⟩, .p) <| .c (⟨some 66, .load 3 (.tmp 65), none⟩, .l) <| .c (⟨some 67, .move (.tmp 0), none⟩, .p) <| .c (⟨some 68, .move (.tmp 3), none⟩, .p) <| .c (⟨some 69, .move (.tmp 8), none⟩, .p) <| .c (⟨some 70, .binOp .add 3 (.tmp 68) (.tmp 69) 3, none⟩, .p) <| .c (⟨some 71, .indexAddr 22 (.tmp 67) (.tmp 70), none⟩, .p) <| .c (⟨some 72, .load 3 (.tmp 71), none⟩, .l) <| .c (⟨some 73, .indexAddr 22 (.tmp 53) (.tmp 56), none⟩, .p) <| .c (⟨none, .store 3 (.tmp 73) (.tmp 66), none⟩, .f) <| .c (⟨some 74, .indexAddr 22 (.tmp 57) (.tmp 60), none⟩, .p) <| .c (⟨none, .store 3 (.tmp 74) (.tmp 72), none⟩, .f) <| .n) Q a) : LI Try.prog h0 L (.raw (.region id rg112_2 true)) Q a :=
  LI_draw (.c (0, .p) <| .c (1, .p) <| .c (2, .p) <| .c (3, .p) <| .c (4, .p) <| .c (5, .p) <| .c (6, .p) <| .c (7, .p) <| .c (8, .p) <| .c (9, .p) <| .c (10, .p) <| .c (11, .p) <| .c (12, .p) <| .c (13, .l) <| .c (14, .p) <| .c (15, .p) <| .c (16, .p) <| .c (17, .p) <| .c (18, .p) <| .c (19, .l) <| .c (20, .p) <| .c (21, .f) <| .c (22, .p) <| .c (23, .f) <| .n) [21, 23] (by kernel_rfl) (by kernel_rfl) (by kernel_rfl) H
theorem dr112_2 (m : Nat) {Q : Exit → List AV → AH → Prop} {a : List AV} {h : AH} {id : Nat} (H : AX Try.prog m h [(⟨some 53, .move (.tmp 0), none⟩, true),
  (⟨some 54, .move (.tmp 3), none⟩, true),
  (⟨some 55, .move (.tmp 8), none⟩, true),
  (⟨some 56, .binOp .add 3 (.tmp 54) (.tmp 55) 3, none⟩, true),
  (⟨some 57, .move (.tmp 0), none⟩, true),
  (⟨some 58, .move (.tmp 3), none⟩, true),
  (⟨some 59, .move (.tmp 9), none⟩, true),
  (⟨some 60, .binOp .add 3 (.tmp 58) (.tmp 59) 3, none⟩, true),
  (⟨some 61, .move (.tmp 0), none⟩, true),
  (⟨some 62, .move (.tmp 3), none⟩, true),
  (⟨some 63, .move (.tmp 9), none⟩, true),
  (⟨some 64, .binOp .add 3 (.tmp 62) (.tmp 63) 3, none⟩, true),
  (⟨some 65, .indexAddr 22 (.tmp 61) (.tmp 64), none⟩, true),
  (⟨some 66, .load 3 (.tmp 65), none⟩, true),
  (⟨some 67, .move (.tmp 0), none⟩, true),
  (⟨some 68, .move (.tmp 3), none⟩, true),
  (⟨some 69, .move (.tmp 8), none⟩, true),
  (⟨some 70, .binOp .add 3 (.tmp 68) (.tmp 69) 3, none⟩, true),
  (⟨some 71, .indexAddr 22 (.tmp 67) (.tmp 70), none⟩, true),
  (⟨some 72, .load 3 (.tmp 71), none⟩, true),
  (⟨some 73, .indexAddr 22 (.tmp 53) (.tmp 56), none⟩, true),
  (⟨none, .store 3 (.tmp 73) (.tmp 66), none⟩, false),
  (⟨some 74, .indexAddr 22 (.tmp 57) (.tmp 60), none⟩, true),
  (⟨none, .store 3 (.tmp 74) (.tmp 72), none⟩, false)] (fun a' h' => Q .normal a' h') a h) : AI Try.prog (.raw (.region id rg112_2 true)) Q a h :=
  AI_draw [(0, true), (1, true), (2, true), (3, true), (4, true), (5, true), (6, true), (7, true), (8, true), (9, true), (10, true), (11, true), (12, true), (13, true), (14, true), (15, true), (16, true), (17, true), (18, true), (19, true), (20, true), (21, false), (22, true), (23, false)] m (by kernel_rfl) (by kernel_rfl) (by kernel_rfl) H

noncomputable def rg104_0 : Array Oper := rawAt Try.f104 0
/-- slices.heapSortOrdered[int] -/
noncomputable def c104 : IC :=
  (.seq
  (.reg [
    ⟨some 11, .move (.tmp 1), none⟩,
    ⟨some 6, .assign (.tmp 11), none⟩])
  (.seq
  (.reg [
    ⟨some 7, .assign (.const (.int .i64 0)), none⟩])
  (.seq
  (.reg [
    ⟨some 12, .move (.tmp 2), none⟩,
    ⟨some 13, .move (.tmp 1), none⟩,
    ⟨some 14, .binOp .sub 3 (.tmp 12) (.tmp 13) 3, none⟩,
    ⟨some 8, .assign (.tmp 14), none⟩])
  (.seq
  (.seq
  (.reg [
    ⟨some 15, .move (.tmp 8), none⟩,
    ⟨some 16, .binOp .sub 3 (.tmp 15) (.const (.int .i64 1)) 3, none⟩,
    ⟨some 17, .binOp .quo 3 (.tmp 16) (.const (.int .i64 2)) 3, none⟩,
    ⟨some 9, .assign (.tmp 17), none⟩])
  (.block 0
  (.loop
    (.seq
    (.seq
    (.reg [
      ⟨some 18, .move (.tmp 9), none⟩,
      ⟨some 19, .binOp .geq 3 (.tmp 18) (.const (.int .i64 0)) 3, none⟩])
    (.cond (.tmp 19)
      .skip
      (.exit 0)))
    (.seq
    (.block 1
    (.reg [
      ⟨some 22, .move (.tmp 0), none⟩,
      ⟨some 23, .move (.tmp 9), none⟩,
      ⟨some 24, .move (.tmp 8), none⟩,
      ⟨some 25, .move (.tmp 6), none⟩,
      ⟨some 26, .call { callee := .value (.func 112), args := #[.tmp 22, .tmp 23, .tmp 24, .tmp 25], argTypes := #[22, 3, 3, 3] }, none⟩]))
    (.reg [
      ⟨some 20, .move (.tmp 9), none⟩,
      ⟨some 21, .binOp .sub 3 (.tmp 20) (.const (.int .i64 1)) 3, none⟩,
      ⟨some 9, .assign (.tmp 21), none⟩]))))))
  (.seq
  (.reg [
    ⟨some 27, .move (.tmp 8), none⟩,
    ⟨some 28, .binOp .sub 3 (.tmp 27) (.const (.int .i64 1)) 3, none⟩,
    ⟨some 10, .assign (.tmp 28), none⟩])
  (.block 2
  (.loop
    (.seq
    (.seq
    (.reg [
      ⟨some 29, .move (.tmp 10), none⟩,
      ⟨some 30, .binOp .geq 3 (.tmp 29) (.const (.int .i64 0)) 3, none⟩])
    (.cond (.tmp 30)
      .skip
      (.exit 2)))
    (.seq
    (.block 3
    (.seq
    (.raw (.region 10 rg104_0 true))
    (.reg [
      ⟨some 51, .move (.tmp 0), none⟩,
      ⟨some 52, .move (.tmp 7), none⟩,
      ⟨some 53, .move (.tmp 10), none⟩,
      ⟨some 54, .move (.tmp 6), none⟩,
      ⟨some 55, .call { callee := .value (.func 112), args := #[.tmp 51, .tmp 52, .tmp 53, .tmp 54], argTypes := #[22, 3, 3, 3] }, none⟩])))
    (.reg [
      ⟨some 31, .move (.tmp 10), none⟩,
      ⟨some 32, .binOp .sub 3 (.tmp 31) (.const (.int .i64 1)) 3, none⟩,
      ⟨some 10, .assign (.tmp 32), none⟩]))))))))))
theorem hd104 : Try.f104.body.map dec = some c104 := by kernel_rfl
theorem e104 {R : AV → AH → Prop} {h : AH} (x0 x1 x2 : AV) (H : h.wf → AI Try.prog c104 (RetQ Try.prog [] R) [x0, x1, x2, un, un, un, un, un, un, un, un, un, un, un, un, un, un, un, un, un, un, un, un, un, un, un, un, un, un, un, un, un, un, un, un, un, un, un, un, un, un, un, un, un, un, un, un, un, un, un, un, un, un, un, un, un] h) : AC Try.prog 104 [x0, x1, x2] h R :=
  AC_of' (rs := []) Try.func104 (by kernel_rfl) hd104 Try.ntmps104 rfl H
theorem dz104_0 {h0 : AH} {L : List It} {Q : Exit → List AV → List It → Prop} {a : List AV} {id : Nat} (H : LX Try.prog ⟨[17, 19], []⟩ h0 L L (.c (⟨some 33, .move (.tmp 0), none⟩, .p) <| .c (⟨some 34, .move (.tmp 6), none⟩, .p) <| .c (⟨some 35, .move (.tmp 0), none⟩, .p) <| .c (⟨some 36, .move (.tmp 6), none⟩, .p) <| .c (⟨some 37, .move (.tmp 10), none⟩, .p) <| .c (⟨some 38, .binOp .add 3 (.tmp 36) (.tmp 37) 3, none⟩, .p) <| .c (⟨some 39, .move (.tmp 0), none⟩, .p) <| .c (⟨some 40, .move (.tmp 6), none⟩, .p) <| .c (⟨some 41, .move (.tmp 10), none⟩, .p) <| .c (⟨some 42, .binOp .add 3 (.tmp 40) (.tmp 41) 3, none⟩, .p) <| .c (⟨some 43, .indexAddr 22 (.tmp 39) (.tmp 42), none⟩, .p) <| .c (⟨some 44, .load 3 (.tmp 43), none⟩, .l) <| .c (⟨some 45, .move (.tmp 0), none⟩, .p) <| .c (⟨some 46, .move (.tmp 6), none⟩, .p) <| .c (⟨some 47, .indexAddr 22 (.tmp 45) (.tmp 46), none⟩, .p) <| .c (⟨some 48, .load 3 (.tmp 47), none⟩, .l) <| .c (⟨some 49, .indexAddr 22 (.tmp 33) (.tmp 34), none⟩, .p) <| .c (⟨none, .store 3 (.tmp 49) (.tmp 44), none⟩, .f) <| .c (⟨some 50, .indexAddr 22 (.tmp 35) (.tmp 38), none⟩, .p) <| .c (⟨none, .store 3 (.tmp 50) (.tmp 48), none⟩, .f) <| .n) Q a) : LI Try.prog h0 L (.raw (.region id rg104_0 true)) Q a :=
  LI_draw (.c (0, .p) <| .c (1, .p) <| .c (2, .p) <| .c (3, .p) <| .c (4, .p) <| .c (5, .p) <| .c (6, .p) <| .c (7, .p) <| .c (8, .p) <| .c (9, .p) <| .c (10, .p) <| .c (11, .l) <| .c (12, .p) <| .c (13, .p) <| .c (14, .p) <| .c (15, .l) <| .c (16, .p) <| .c (17, .f) <| .c (18, .p) <| .c (19, .f) <| .n) [17, 19] (by kernel_rfl) (by kernel_rfl) (by kernel_rfl) H
theorem dr104_0 (m : Nat) {Q : Exit → List AV → AH → Prop} {a : List AV} {h : AH} {id : Nat} (H : AX Try.prog m h [(⟨some 33, .move (.tmp 0), none⟩, true),
  (⟨some 34, .move (.tmp 6), none⟩, true),
  (⟨some 35, .move (.tmp 0), none⟩, true),
  (⟨some 36, .move (.tmp 6), none⟩, true),
  (⟨some 37, .move (.tmp 10), none⟩, true),
  (⟨some 38, .binOp .add 3 (.tmp 36) (.tmp 37) 3, none⟩, true),
  (⟨some 39, .move (.tmp 0), none⟩, true),
  (⟨some 40, .move (.tmp 6), none⟩, true),
  (⟨some 41, .move (.tmp 10), none⟩, true),
  (⟨some 42, .binOp .add 3 (.tmp 40) (.tmp 41) 3, none⟩, true),
  (⟨some 43, .indexAddr 22 (.tmp 39) (.tmp 42), none⟩, true),
  (⟨some 44, .load 3 (.tmp 43), none⟩, true),
  (⟨some 45, .move (.tmp 0), none⟩, true),
  (⟨some 46, .move (.tmp 6), none⟩, true),
  (⟨some 47, .indexAddr 22 (.tmp 45) (.tmp 46), none⟩, true),
  (⟨some 48, .load 3 (.tmp 47), none⟩, true),
  (⟨some 49, .indexAddr 22 (.tmp 33) (.tmp 34), none⟩, true),
  (⟨none, .store 3 (.tmp 49) (.tmp 44), none⟩, false),
  (⟨some 50, .indexAddr 22 (.tmp 35) (.tmp 38), none⟩, true),
  (⟨none, .store 3 (.tmp 50) (.tmp 48), none⟩, false)] (fun a' h' => Q .normal a' h') a h) : AI Try.prog (.raw (.region id rg104_0 true)) Q a h :=
  AI_draw [(0, true), (1, true), (2, true), (3, true), (4, true), (5, true), (6, true), (7, true), (8, true), (9, true), (10, true), (11, true), (12, true), (13, true), (14, true), (15, true), (16, true), (17, false), (18, true), (19, false)] m (by kernel_rfl) (by kernel_rfl) (by kernel_rfl) H

/-- slices.nextPowerOfTwo -/
def c113 : IC :=
  (.seq
  (.reg [
    ⟨some 2, .assign (.const (.int .u64 0)), none⟩])
  (.seq
  (.reg [
    ⟨some 3, .move (.tmp 0), none⟩,
    ⟨some 4, .convert 3 67 (.tmp 3), none⟩,
    ⟨some 5, .call { callee := .value (.func 83), args := #[.tmp 4], argTypes := #[67] }, none⟩,
    ⟨some 6, .binOp .shl 67 (.const (.int .u64 1)) (.tmp 5) 3, none⟩,
    ⟨some 2, .assign (.tmp 6), none⟩])
  .ret))
theorem hd113 : Try.f113.body.map dec = some c113 := by kernel_rfl
theorem e113 {R : AV → AH → Prop} {h : AH} (x0 : AV) (H : h.wf → AI Try.prog c113 (RetQ Try.prog [.tmp 2] R) [x0, un, un, un, un, un, un] h) : AC Try.prog 113 [x0] h R :=
  AC_of' (rs := [.tmp 2]) Try.func113 (by kernel_rfl) hd113 Try.ntmps113 rfl H

noncomputable def rg114_0 : Array Oper := rawAt Try.f114 0
noncomputable def rg114_1 : Array Oper := rawAt Try.f114 1
noncomputable def rg114_2 : Array Oper := rawAt Try.f114 2
/-- (*slices.xorshift).Next -/
noncomputable def c114 : IC :=
  (.seq
  (.reg [
    ⟨some 2, .assign (.const (.int .u64 0)), none⟩])
  (.seq
  (.raw (.region 1 rg114_0 true))
  (.seq
  (.raw (.region 2 rg114_1 true))
  (.seq
  (.raw (.region 3 rg114_2 true))
  (.seq
  (.reg [
    ⟨some 30, .move (.tmp 0), none⟩,
    ⟨some 31, .nilCheck (.tmp 30), none⟩,
    ⟨some 32, .load 84 (.tmp 31), none⟩,
    ⟨some 2, .assign (.tmp 32), none⟩])
  .ret)))))
theorem hd114 : Try.f114.body.map dec = some c114 := by kernel_rfl
theorem e114 {R : AV → AH → Prop} {h : AH} (x0 : AV) (H : h.wf → AI Try.prog c114 (RetQ Try.prog [.tmp 2] R) [x0, un, un, un, un, un, un, un, un, un, un, un, un, un, un, un, un, un, un, un, un, un, un, un, un, un, un, un, un, un, un, un, un] h) : AC Try.prog 114 [x0] h R :=
  AC_of' (rs := [.tmp 2]) Try.func114 (by kernel_rfl) hd114 Try.ntmps114 rfl H
theorem dz114_0 {h0 : AH} {L : List It} {Q : Exit → List AV → List It → Prop} {a : List AV} {id : Nat} (H : LX Try.prog ⟨[9], []⟩ h0 L L (.c (⟨some 3, .move (.tmp 0), none⟩, .p) <| .c (⟨some 4, .nilCheck (.tmp 3), none⟩, .p) <| .c (⟨some 5, .load 84 (.tmp 4), none⟩, .l) <| .c (⟨some 6, .move (.tmp 0), none⟩, .p) <| .c (⟨some 7, .nilCheck (.tmp 6), none⟩, .p) <| .c (⟨some 8, .load 84 (.tmp 7), none⟩, .l) <| .c (⟨some 9, .binOp .shl 84 (.tmp 8) (.const (.int .u64 13)) 67, none⟩, .p) <| .c (⟨some 10, .binOp .xor 84 (.tmp 5) (.tmp 9) 84, none⟩, .p) <| .c (⟨some 11, .nilCheck (.tmp 3), none⟩, .p) <| .c (⟨none, .store 84 (.tmp 11) (.tmp 10), none⟩, .f) <| .n) Q a) : LI Try.prog h0 L (.raw (.region id rg114_0 true)) Q a :=
  LI_draw (.c (0, .p) <| .c (1, .p) <| .c (2, .l) <| .c (3, .p) <| .c (4, .p) <| .c (5, .l) <| .c (6, .p) <| .c (7, .p) <| .c (8, .p) <| .c (9, .f) <| .n) [9] (by kernel_rfl) (by kernel_rfl) (by kernel_rfl) H
theorem dr114_0 (m : Nat) {Q : Exit → List AV → AH → Prop} {a : List AV} {h : AH} {id : Nat} (H : AX Try.prog m h [(⟨some 3, .move (.tmp 0), none⟩, true),
  (⟨some 4, .nilCheck (.tmp 3), none⟩, true),
  (⟨some 5, .load 84 (.tmp 4), none⟩, true),
  (⟨some 6, .move (.tmp 0), none⟩, true),
  (⟨some 7, .nilCheck (.tmp 6), none⟩, true),
  (⟨some 8, .load 84 (.tmp 7), none⟩, true),
  (⟨some 9, .binOp .shl 84 (.tmp 8) (.const (.int .u64 13)) 67, none⟩, true),
  (⟨some 10, .binOp .xor 84 (.tmp 5) (.tmp 9) 84, none⟩, true),
  (⟨some 11, .nilCheck (.tmp 3), none⟩, true),
  (⟨none, .store 84 (.tmp 11) (.tmp 10), none⟩, false)] (fun a' h' => Q .normal a' h') a h) : AI Try.prog (.raw (.region id rg114_0 true)) Q a h :=
  AI_draw [(0, true), (1, true), (2, true), (3, true), (4, true), (5, true), (6, true), (7, true), (8, true), (9, false)] m (by kernel_rfl) (by kernel_rfl) (by kernel_rfl) H
theorem dz114_1 {h0 : AH} {L : List It} {Q : Exit → List AV → List It → Prop} {a : List AV} {id : Nat} (H : LX Try.prog ⟨[9], []⟩ h0 L L (.c (⟨some 12, .move (.tmp 0), none⟩, .p) <| .c (⟨some 13, .nilCheck (.tmp 12), none⟩, .p) <| .c (⟨some 14, .load 84 (.tmp 13), none⟩, .l) <| .c (⟨some 15, .move (.tmp 0), none⟩, .p) <| .c (⟨some 16, .nilCheck (.tmp 15), none⟩, .p) <| .c (⟨some 17, .load 84 (.tmp 16), none⟩, .l) <| .c (⟨some 18, .binOp .shr 84 (.tmp 17) (.const (.int .u64 7)) 67, none⟩, .p) <| .c (⟨some 19, .binOp .xor 84 (.tmp 14) (.tmp 18) 84, none⟩, .p) <| .c (⟨some 20, .nilCheck (.tmp 12), none⟩, .p) <| .c (⟨none, .store 84 (.tmp 20) (.tmp 19), none⟩, .f) <| .n) Q a) : LI Try.prog h0 L (.raw (.region id rg114_1 true)) Q a :=
  LI_draw (.c (0, .p) <| .c (1, .p) <| .c (2, .l) <| .c (3, .p) <| .c (4, .p) <| .c (5, .l) <| .c (6, .p) <| .c (7, .p) <| .c (8, .p) <| .c (9, .f) <| .n) [9] (by kernel_rfl) (by kernel_rfl) (by kernel_rfl) H
theorem dr114_1 (m : Nat) {Q : Exit → List AV → AH → Prop} {a : List AV} {h : AH} {id : Nat} (H : AX Try.prog m h [(⟨some 12, .move (.tmp 0), none⟩, true),
  (⟨some 13, .nilCheck (.tmp 12), none⟩, true),
  (⟨some 14, .load 84 (.tmp 13), none⟩, true),
  (⟨some 15, .move (.tmp 0), none⟩, true),
  (⟨some 16, .nilCheck (.tmp 15), none⟩, true),
  (⟨some 17, .load 84 (.tmp 16), none⟩, true),
  (⟨some 18, .binOp .shr 84 (.tmp 17) (.const (.int .u64 7)) 67, none⟩, true),
  (⟨some 19, .binOp .xor 84 (.tmp 14) (.tmp 18) 84, none⟩, true),
  (⟨some 20, .nilCheck (.tmp 12), none⟩, true),
  (⟨none, .store 84 (.tmp 20) (.tmp 19), none⟩, false)] (fun a' h' => Q .normal a' h') a h) : AI Try.prog (.raw (.region id rg114_1 true)) Q a h :=
  AI_draw [(0, true), (1, true), (2, true), (3, true), (4, true), (5, true), (6, true), (7, true), (8, true), (9, false)] m (by kernel_rfl) (by kernel_rfl) (by kernel_rfl) H
theorem dz114_2 {h0 : AH} {L : List It} {Q : Exit → List AV → List It → Prop} {a : List AV} {id : Nat} (H : LX Try.prog ⟨[9], []⟩ h0 L L (.c (⟨some 21, .move (.tmp 0), none⟩, .p) <| .c (⟨some 22, .nilCheck (.tmp 21), none⟩, .p) <| .c (⟨some 23, .load 84 (.tmp 22), none⟩, .l) <| .c (⟨some 24, .move (.tmp 0), none⟩, .p) <| .c (⟨some 25, .nilCheck (.tmp 24), none⟩, .p) <| .c (⟨some 26, .load 84 (.tmp 25), none⟩, .l) <| .c (⟨some 27, .binOp .shl 84 (.tmp 26) (.const (.int .u64 17)) 67, none⟩, .p) <| .c (⟨some 28, .binOp .xor 84 (.tmp 23) (.tmp 27) 84, none⟩, .p) <| .c (⟨some 29, .nilCheck (.tmp 21), none⟩, .p) <| .c (⟨none, .store 84 (.tmp 29) (.tmp 28), none⟩, .f) <| .n) Q a) : LI Try.prog h0 L (.raw (.region id rg114_2 true)) Q a :=
  LI_draw (.c (0, .p) <| .c (1, .p) <| .c (2, .l) <| .c (3, .p) <| .c (4, .p) <| .c (5, .l) <| .c (6, .p) <| .c (7, .p) <| .c (8, .p) <| .c (9, .f) <| .n) [9] (by kernel_rfl) (by kernel_rfl) (by kernel_rfl) H
theorem dr114_2 (m : Nat) {Q : Exit → List AV → AH → Prop} {a : List AV} {h : AH} {id : Nat} (H : AX Try.prog m h [(⟨some 21, .move (.tmp 0), none⟩, true),
  (⟨some 22, .nilCheck (.tmp 21), none⟩, true),
  (⟨some 23, .load 84 (.tmp 22), none⟩, true),
  (⟨some 24, .move (.tmp 0), none⟩, true),
  (⟨some 25, .nilCheck (.tmp 24), none⟩, true),
  (⟨some 26, .load 84 (.tmp 25), none⟩, true),
  (⟨some 27, .binOp .shl 84 (.tmp 26) (.const (.int .u64 17)) 67, none⟩, true),
  (⟨some 28, .binOp .xor 84 (.tmp 23) (.tmp 27) 84, none⟩, true),
  (⟨some 29, .nilCheck (.tmp 21), none⟩, true),
  (⟨none, .store 84 (.tmp 29) (.tmp 28), none⟩, false)] (fun a' h' => Q .normal a' h') a h) : AI Try.prog (.raw (.region id rg114_2 true)) Q a h :=
  AI_draw [(0, true), (1, true), (2, true), (3, true), (4, true), (5, true), (6, true), (7, true), (8, true), (9, false)] m (by kernel_rfl) (by kernel_rfl) (by kernel_rfl) H

noncomputable def rg105_0 : Array Oper := rawAt Try.f105 0
/-- slices.breakPatternsOrdered[int] -/
noncomputable def c105 : IC :=
  (.seq
  (.reg [
    ⟨some 11, .move (.tmp 2), none⟩,
    ⟨some 12, .move (.tmp 1), none⟩,
    ⟨some 13, .binOp .sub 3 (.tmp 11) (.tmp 12) 3, none⟩,
    ⟨some 6, .assign (.tmp 13), none⟩])
  (.seq
  (.reg [
    ⟨some 14, .move (.tmp 6), none⟩,
    ⟨some 15, .binOp .geq 3 (.tmp 14) (.const (.int .i64 8)) 3, none⟩])
  (.cond (.tmp 15)
    (.seq
    (.reg [
      ⟨some 16, .move (.tmp 6), none⟩,
      ⟨some 17, .convert 3 84 (.tmp 16), none⟩,
      ⟨some 7, .alloc 84, none⟩,
      ⟨none, .store 84 (.tmp 7) (.tmp 17), none⟩])
    (.seq
    (.reg [
      ⟨some 18, .move (.tmp 6), none⟩,
      ⟨some 19, .call { callee := .value (.func 113), args := #[.tmp 18], argTypes := #[3] }, none⟩,
      ⟨some 8, .assign (.tmp 19), none⟩])
    (.seq
    (.reg [
      ⟨some 20, .move (.tmp 1), none⟩,
      ⟨some 21, .move (.tmp 6), none⟩,
      ⟨some 22, .binOp .quo 3 (.tmp 21) (.const (.int .i64 4)) 3, none⟩,
      ⟨some 23, .binOp .mul 3 (.tmp 22) (.const (.int .i64 2)) 3, none⟩,
      ⟨some 24, .binOp .add 3 (.tmp 20) (.tmp 23) 3, none⟩,
      ⟨some 25, .binOp .sub 3 (.tmp 24) (.const (.int .i64 1)) 3, none⟩,
      ⟨some 9, .assign (.tmp 25), none⟩])
    (.block 0
    (.loop
      (.seq
      (.seq
      (.reg [
        ⟨some 26, .move (.tmp 9), none⟩,
        ⟨some 27, .move (.tmp 1), none⟩,
        ⟨some 28, .move (.tmp 6), none⟩,
        ⟨some 29, .binOp .quo 3 (.tmp 28) (.const (.int .i64 4)) 3, none⟩,
        ⟨some 30, .binOp .mul 3 (.tmp 29) (.const (.int .i64 2)) 3, none⟩,
        ⟨some 31, .binOp .add 3 (.tmp 27) (.tmp 30) 3, none⟩,
        ⟨some 32, .binOp .add 3 (.tmp 31) (.const (.int .i64 1)) 3, none⟩,
        ⟨some 33, .binOp .leq 3 (.tmp 26) (.tmp 32) 3, none⟩])
      (.cond (.tmp 33)
        .skip
        (.exit 0)))
      (.seq
      (.block 1
      (.seq
      (.reg [
        ⟨some 36, .call { callee := .value (.func 114), args := #[.tmp 7], argTypes := #[84] }, none⟩,
        ⟨some 37, .move (.tmp 8), none⟩,
        ⟨some 38, .binOp .sub 67 (.tmp 37) (.const (.int .u64 1)) 67, none⟩,
        ⟨some 39, .binOp .and 67 (.tmp 36) (.tmp 38) 67, none⟩,
        ⟨some 40, .convert 67 3 (.tmp 39), none⟩,
        ⟨some 10, .assign (.tmp 40), none⟩])
      (.seq
      (.seq
      (.reg [
        ⟨some 41, .move (.tmp 10), none⟩,
        ⟨some 42, .move (.tmp 6), none⟩,
        ⟨some 43, .binOp .geq 3 (.tmp 41) (.tmp 42) 3, none⟩])
      (.cond (.tmp 43)
        (.reg [
          ⟨some 44, .move (.tmp 10), none⟩,
          ⟨some 45, .move (.tmp 6), none⟩,
          ⟨some 46, .binOp .sub 3 (.tmp 44) (.tmp 45) 3, none⟩,
          ⟨some 10, .assign (.tmp 46), none⟩])
        .skip))
      (.raw (.region 10 rg105_0 true)))))
      (.reg [
        ⟨some 34, .move (.tmp 9), none⟩,
        ⟨some 35, .binOp .add 3 (.tmp 34) (.const (.int .i64 1)) 3, none⟩,
        ⟨some 9, .assign (.tmp 35), none⟩]))))))))
    .skip)))
theorem hd105 : Try.f105.body.map dec = some c105 := by kernel_rfl
theorem e105 {R : AV → AH → Prop} {h : AH} (x0 x1 x2 : AV) (H : h.wf → AI Try.prog c105 (RetQ Try.prog [] R) [x0, x1, x2, un, un, un, un, un, un, un, un, un, un, un, un, un, un, un, un, un, un, un, un, un, un, un, un, un, un, un, un, un, un, un, un, un, un, un, un, un, un, un, un, un, un, un, un, un, un, un, un, un, un, un, un, un, un, un, un, un, un, un, un, un, un] h) : AC Try.prog 105 [x0, x1, x2] h R :=
  AC_of' (rs := []) Try.func105 (by kernel_rfl) hd105 Try.ntmps105 rfl H
theorem dz105_0 {h0 : AH} {L : List It} {Q : Exit → List AV → List It → Prop} {a : List AV} {id : Nat} (H : LX Try.prog ⟨[17, 19], []⟩ h0 L L (.c (⟨some 47, .move (.tmp 0), none⟩, .p) <| .c (⟨some 48, .move (.tmp 9), none⟩, .p) <| .c (⟨some 49, .move (.tmp 0), none⟩, .p) <| .c (⟨some 50, .move (.tmp 1), none⟩, .p) <| .c (⟨some 51, .move (.tmp 10), none⟩, .p) <| .c (⟨some 52, .binOp .add 3 (.tmp 50) (.tmp 51) 3, none⟩, .p) <| .c (⟨some 53, .move (.tmp 0), none⟩, .p) <| .c (⟨some 54, .move (.tmp 1), none⟩, .p) <| .c (⟨some 55, .move (.tmp 10), none⟩, .p) <| .c (⟨some 56, .binOp .add 3 (.tmp 54) (.tmp 55) 3, none⟩, .p) <| .c (⟨some 57, .indexAddr 22 (.tmp 53) (.tmp 56), none⟩, .p) <| .c (⟨some 58, .load 3 (.tmp 57), none⟩, .l) <| .c (⟨some 59, .move (.tmp 0), none⟩, .p) <| .c (⟨some 60, .move (.tmp 9), none⟩, .p) <| .c (⟨some 61, .indexAddr 22 (.tmp 59) (.tmp 60), none⟩, .p) <| .c (⟨some 62, .load 3 (.tmp 61), none⟩, .l) <| .c (⟨some 63, .indexAddr 22 (.tmp 47) (.tmp 48), none⟩, .p) <| .c (⟨none, .store 3 (.tmp 63) (.tmp 58), none⟩, .f) <| .c (⟨some 64, .indexAddr 22 (.tmp 49) (.tmp 52), none⟩, .p) <| .c (⟨none, .store 3 (.tmp 64) (.tmp 62), none⟩, .f) <| .n) Q a) : LI Try.prog h0 L (.raw (.region id rg105_0 true)) Q a :=
  LI_draw (.c (0, .p) <| .c (1, .p) <| .c (2, .p) <| .c (3, .p) <| .c (4, .p) <| .c (5, .p) <| .c (6, .p) <| .c (7, .p) <| .c (8, .p) <| .c (9, .p) <| .c (10, .p) <| .c (11, .l) <| .c (12, .p) <| .c (13, .p) <| .c (14, .p) <| .c (15, .l) <| .c (16, .p) <| .c (17, .f) <| .c (18, .p) <| .c (19, .f) <| .n) [17, 19] (by kernel_rfl) (by kernel_rfl) (by kernel_rfl) H
theorem dr105_0 (m : Nat) {Q : Exit → List AV → AH → Prop} {a : List AV} {h : AH} {id : Nat} (H : AX Try.prog m h [(⟨some 47, .move (.tmp 0), none⟩, true),
  (⟨some 48, .move (.tmp 9), none⟩, true),
  (⟨some 49, .move (.tmp 0), none⟩, true),
  (⟨some 50, .move (.tmp 1), none⟩, true),
  (⟨some 51, .move (.tmp 10), none⟩, true),
  (⟨some 52, .binOp .add 3 (.tmp 50) (.tmp 51) 3, none⟩, true),
  (⟨some 53, .move (.tmp 0), none⟩, true),
  (⟨some 54, .move (.tmp 1), none⟩, true),
  (⟨some 55, .move (.tmp 10), none⟩, true),
  (⟨some 56, .binOp .add 3 (.tmp 54) (.tmp 55) 3, none⟩, true),
  (⟨some 57, .indexAddr 22 (.tmp 53) (.tmp 56), none⟩, true),
  (⟨some 58, .load 3 (.tmp 57), none⟩, true),
  (⟨some 59, .move (.tmp 0), none⟩, true),
  (⟨some 60, .move (.tmp 9), none⟩, true),
  (⟨some 61, .indexAddr 22 (.tmp 59) (.tmp 60), none⟩, true),
  (⟨some 62, .load 3 (.tmp 61), none⟩, true),
  (⟨some 63, .indexAddr 22 (.tmp 47) (.tmp 48), none⟩, true),
  (⟨none, .store 3 (.tmp 63) (.tmp 58), none⟩, false),
  (⟨some 64, .indexAddr 22 (.tmp 49) (.tmp 52), none⟩, true),
  (⟨none, .store 3 (.tmp 64) (.tmp 62), none⟩, false)] (fun a' h' => Q .normal a' h') a h) : AI Try.prog (.raw (.region id rg105_0 true)) Q a h :=
  AI_draw [(0, true), (1, true), (2, true), (3, true), (4, true), (5, true), (6, true), (7, true), (8, true), (9, true), (10, true), (11, true), (12, true), (13, true), (14, true), (15, true), (16, true), (17, false), (18, true), (19, false)] m (by kernel_rfl) (by kernel_rfl) (by kernel_rfl) H

noncomputable def rg118_0 : Array Oper := rawAt Try.f118 0
/-- slices.order2Ordered[int] -/
noncomputable def c118 : IC :=
  (.seq
  (.reg [
    ⟨some 8, .assign (.const (.int .i64 0)), none⟩,
    ⟨some 9, .assign (.const (.int .i64 0)), none⟩])
  (.seq
  (.seq
  (.raw (.region 1 rg118_0 true))
  (.cond (.tmp 18)
    (.seq
    (.reg [
      ⟨some 19, .move (.tmp 3), none⟩,
      ⟨some 20, .nilCheck (.tmp 19), none⟩,
      ⟨some 21, .load 3 (.tmp 20), none⟩,
      ⟨some 22, .binOp .add 3 (.tmp 21) (.const (.int .i64 1)) 3, none⟩,
      ⟨some 23, .nilCheck (.tmp 19), none⟩,
      ⟨none, .store 3 (.tmp 23) (.tmp 22), none⟩])
    (.seq
    (.reg [
      ⟨some 24, .move (.tmp 2), none⟩,
      ⟨some 25, .move (.tmp 1), none⟩,
      ⟨some 8, .assign (.tmp 24), none⟩,
      ⟨some 9, .assign (.tmp 25), none⟩])
    .ret))
    .skip))
  (.seq
  (.reg [
    ⟨some 26, .move (.tmp 1), none⟩,
    ⟨some 27, .move (.tmp 2), none⟩,
    ⟨some 8, .assign (.tmp 26), none⟩,
    ⟨some 9, .assign (.tmp 27), none⟩])
  .ret)))
theorem hd118 : Try.f118.body.map dec = some c118 := by kernel_rfl
theorem e118 {R : AV → AH → Prop} {h : AH} (x0 x1 x2 x3 : AV) (H : h.wf → AI Try.prog c118 (RetQ Try.prog [.tmp 8, .tmp 9] R) [x0, x1, x2, x3, un, un, un, un, un, un, un, un, un, un, un, un, un, un, un, un, un, un, un, un, un, un, un, un] h) : AC Try.prog 118 [x0, x1, x2, x3] h R :=
  AC_of' (rs := [.tmp 8, .tmp 9]) Try.func118 (by kernel_rfl) hd118 Try.ntmps118 rfl H
theorem dz118_0 {h0 : AH} {L : List It} {Q : Exit → List AV → List It → Prop} {a : List AV} {id : Nat} (H : LX Try.prog ⟨[], []⟩ h0 L L (.c (⟨some 10, .move (.tmp 0), none⟩, .p) <| .c (⟨some 11, .move (.tmp 2), none⟩, .p) <| .c (⟨some 12, .indexAddr 22 (.tmp 10) (.tmp 11), none⟩, .p) <| .c (⟨some 13, .load 3 (.tmp 12), none⟩, .l) <| .c (⟨some 14, .move (.tmp 0), none⟩, .p) <| .c (⟨some 15, .move (.tmp 1), none⟩, .p) <| .c (⟨some 16, .indexAddr 22 (.tmp 14) (.tmp 15), none⟩, .p) <| .c (⟨some 17, .load 3 (.tmp 16), none⟩, .l) <| .c (⟨some 18, .call { callee := .value (.func 109), args := #[.tmp 13, .tmp 17], argTypes := #[3, 3] }, none⟩, .e) <| .n) Q a) : LI Try.prog h0 L (.raw (.region id rg118_0 true)) Q a :=
  LI_draw (.c (0, .p) <| .c (1, .p) <| .c (2, .p) <| .c (3, .l) <| .c (4, .p) <| .c (5, .p) <| .c (6, .p) <| .c (7, .l) <| .c (8, .e) <| .n) [] (by kernel_rfl) (by kernel_rfl) (by kernel_rfl) H
theorem dy118_0 {h0 : AH} {L : List It} {Q : Exit → List AV → List It → Prop} {a : List AV} {id : Nat} (H : LX Try.prog ⟨[8], []⟩ h0 L L (.c (⟨some 10, .move (.tmp 0), none⟩, .p) <| .c (⟨some 11, .move (.tmp 2), none⟩, .p) <| .c (⟨some 12, .indexAddr 22 (.tmp 10) (.tmp 11), none⟩, .p) <| .c (⟨some 13, .load 3 (.tmp 12), none⟩, .l) <| .c (⟨some 14, .move (.tmp 0), none⟩, .p) <| .c (⟨some 15, .move (.tmp 1), none⟩, .p) <| .c (⟨some 16, .indexAddr 22 (.tmp 14) (.tmp 15), none⟩, .p) <| .c (⟨some 17, .load 3 (.tmp 16), none⟩, .l) <| .c (⟨some 18, .call { callee := .value (.func 109), args := #[.tmp 13, .tmp 17], argTypes := #[3, 3] }, none⟩, .f) <| .n) Q a) : LI Try.prog h0 L (.raw (.region id rg118_0 true)) Q a :=
  LI_draw (.c (0, .p) <| .c (1, .p) <| .c (2, .p) <| .c (3, .l) <| .c (4, .p) <| .c (5, .p) <| .c (6, .p) <| .c (7, .l) <| .c (8, .f) <| .n) [8] (by kernel_rfl) (by kernel_rfl) (by kernel_rfl) H
theorem dr118_0 (m : Nat) {Q : Exit → List AV → AH → Prop} {a : List AV} {h : AH} {id : Nat} (H : AX Try.prog m h [(⟨some 10, .move (.tmp 0), none⟩, true),
  (⟨some 11, .move (.tmp 2), none⟩, true),
  (⟨some 12, .indexAddr 22 (.tmp 10) (.tmp 11), none⟩, true),
  (⟨some 13, .load 3 (.tmp 12), none⟩, true),
  (⟨some 14, .move (.tmp 0), none⟩, true),
  (⟨some 15, .move (.tmp 1), none⟩, true),
  (⟨some 16, .indexAddr 22 (.tmp 14) (.tmp 15), none⟩, true),
  (⟨some 17, .load 3 (.tmp 16), none⟩, true),
  (⟨some 18, .call { callee := .value (.func 109), args := #[.tmp 13, .tmp 17], argTypes := #[3, 3] }, none⟩, false)] (fun a' h' => Q .normal a' h') a h) : AI Try.prog (.raw (.region id rg118_0 true)) Q a h :=
  AI_draw [(0, true), (1, true), (2, true), (3, true), (4, true), (5, true), (6, true), (7, true), (8, false)] m (by kernel_rfl) (by kernel_rfl) (by kernel_rfl) H

/-- slices.medianOrdered[int] -/
def c116 : IC :=
  (.seq
  (.reg [
    ⟨some 10, .assign (.const (.int .i64 0)), none⟩])
  (.seq
  (.reg [
    ⟨some 12, .move (.tmp 0), none⟩,
    ⟨some 13, .move (.tmp 1), none⟩,
    ⟨some 14, .move (.tmp 2), none⟩,
    ⟨some 15, .move (.tmp 4), none⟩,
    ⟨some 16, .call { callee := .value (.func 118), args := #[.tmp 12, .tmp 13, .tmp 14, .tmp 15], argTypes := #[22, 3, 3, 88] }, none⟩,
    ⟨some 11, .move (.tmp 16), none⟩,
    ⟨some 17, .extract (.tmp 11) 0, none⟩,
    ⟨some 18, .extract (.tmp 11) 1, none⟩,
    ⟨some 1, .assign (.tmp 17), none⟩,
    ⟨some 2, .assign (.tmp 18), none⟩])
  (.seq
  (.reg [
    ⟨some 20, .move (.tmp 0), none⟩,
    ⟨some 21, .move (.tmp 2), none⟩,
    ⟨some 22, .move (.tmp 3), none⟩,
    ⟨some 23, .move (.tmp 4), none⟩,
    ⟨some 24, .call { callee := .value (.func 118), args := #[.tmp 20, .tmp 21, .tmp 22, .tmp 23], argTypes := #[22, 3, 3, 88] }, none⟩,
    ⟨some 19, .move (.tmp 24), none⟩,
    ⟨some 25, .extract (.tmp 19) 0, none⟩,
    ⟨some 26, .extract (.tmp 19) 1, none⟩,
    ⟨some 2, .assign (.tmp 25), none⟩,
    ⟨some 3, .assign (.tmp 26), none⟩])
  (.seq
  (.reg [
    ⟨some 28, .move (.tmp 0), none⟩,
    ⟨some 29, .move (.tmp 1), none⟩,
    ⟨some 30, .move (.tmp 2), none⟩,
    ⟨some 31, .move (.tmp 4), none⟩,
    ⟨some 32, .call { callee := .value (.func 118), args := #[.tmp 28, .tmp 29, .tmp 30, .tmp 31], argTypes := #[22, 3, 3, 88] }, none⟩,
    ⟨some 27, .move (.tmp 32), none⟩,
    ⟨some 33, .extract (.tmp 27) 0, none⟩,
    ⟨some 34, .extract (.tmp 27) 1, none⟩,
    ⟨some 1, .assign (.tmp 33), none⟩,
    ⟨some 2, .assign (.tmp 34), none⟩])
  (.seq
  (.reg [
    ⟨some 35, .move (.tmp 2), none⟩,
    ⟨some 10, .assign (.tmp 35), none⟩])
  .ret)))))
theorem hd116 : Try.f116.body.map dec = some c116 := by kernel_rfl
theorem e116 {R : AV → AH → Prop} {h : AH} (x0 x1 x2 x3 x4 : AV) (H : h.wf → AI Try.prog c116 (RetQ Try.prog [.tmp 10] R) [x0, x1, x2, x3, x4, un, un, un, un, un, un, un, un, un, un, un, un, un, un, un, un, un, un, un, un, un, un, un, un, un, un, un, un, un, un, un] h) : AC Try.prog 116 [x0, x1, x2, x3, x4] h R :=
  AC_of' (rs := [.tmp 10]) Try.func116 (by kernel_rfl) hd116 Try.ntmps116 rfl H

/-- slices.medianAdjacentOrdered[int] -/
def c115 : IC :=
  (.seq
  (.reg [
    ⟨some 6, .assign (.const (.int .i64 0)), none⟩])
  (.seq
  (.reg [
    ⟨some 7, .move (.tmp 0), none⟩,
    ⟨some 8, .move (.tmp 1), none⟩,
    ⟨some 9, .binOp .sub 3 (.tmp 8) (.const (.int .i64 1)) 3, none⟩,
    ⟨some 10, .move (.tmp 1), none⟩,
    ⟨some 11, .move (.tmp 1), none⟩,
    ⟨some 12, .binOp .add 3 (.tmp 11) (.const (.int .i64 1)) 3, none⟩,
    ⟨some 13, .move (.tmp 2), none⟩,
    ⟨some 14, .call { callee := .value (.func 116), args := #[.tmp 7, .tmp 9, .tmp 10, .tmp 12, .tmp 13], argTypes := #[22, 3, 3, 3, 88] }, none⟩,
    ⟨some 6, .assign (.tmp 14), none⟩])
  .ret))
theorem hd115 : Try.f115.body.map dec = some c115 := by kernel_rfl
theorem e115 {R : AV → AH → Prop} {h : AH} (x0 x1 x2 : AV) (H : h.wf → AI Try.prog c115 (RetQ Try.prog [.tmp 6] R) [x0, x1, x2, un, un, un, un, un, un, un, un, un, un, un, un] h) : AC Try.prog 115 [x0, x1, x2] h R :=
  AC_of' (rs := [.tmp 6]) Try.func115 (by kernel_rfl) hd115 Try.ntmps115 rfl H

/-- slices.choosePivotOrdered[int] -/
def c106 : IC :=
  (.seq
  (.reg [
    ⟨some 6, .assign (.const (.int .i64 0)), none⟩,
    ⟨some 7, .assign (.const (.int .i64 0)), none⟩])
  (.seq
  (.reg [
    ⟨some 13, .move (.tmp 2), none⟩,
    ⟨some 14, .move (.tmp 1), none⟩,
    ⟨some 15, .binOp .sub 3 (.tmp 13) (.tmp 14) 3, none⟩,
    ⟨some 8, .assign (.tmp 15), none⟩])
  (.seq
  (.reg [
    ⟨some 9, .alloc 3, none⟩])
  (.seq
  (.reg [
    ⟨some 16, .move (.tmp 1), none⟩,
    ⟨some 17, .move (.tmp 8), none⟩,
    ⟨some 18, .binOp .quo 3 (.tmp 17) (.const (.int .i64 4)) 3, none⟩,
    ⟨some 19, .binOp .mul 3 (.tmp 18) (.const (.int .i64 1)) 3, none⟩,
    ⟨some 20, .binOp .add 3 (.tmp 16) (.tmp 19) 3, none⟩,
    ⟨some 10, .assign (.tmp 20), none⟩])
  (.seq
  (.reg [
    ⟨some 21, .move (.tmp 1), none⟩,
    ⟨some 22, .move (.tmp 8), none⟩,
    ⟨some 23, .binOp .quo 3 (.tmp 22) (.const (.int .i64 4)) 3, none⟩,
    ⟨some 24, .binOp .mul 3 (.tmp 23) (.const (.int .i64 2)) 3, none⟩,
    ⟨some 25, .binOp .add 3 (.tmp 21) (.tmp 24) 3, none⟩,
    ⟨some 11, .assign (.tmp 25), none⟩])
  (.seq
  (.reg [
    ⟨some 26, .move (.tmp 1), none⟩,
    ⟨some 27, .move (.tmp 8), none⟩,
    ⟨some 28, .binOp .quo 3 (.tmp 27) (.const (.int .i64 4)) 3, none⟩,
    ⟨some 29, .binOp .mul 3 (.tmp 28) (.const (.int .i64 3)) 3, none⟩,
    ⟨some 30, .binOp .add 3 (.tmp 26) (.tmp 29) 3, none⟩,
    ⟨some 12, .assign (.tmp 30), none⟩])
  (.seq
  (.seq
  (.reg [
    ⟨some 31, .move (.tmp 8), none⟩,
    ⟨some 32, .binOp .geq 3 (.tmp 31) (.const (.int .i64 8)) 3, none⟩])
  (.cond (.tmp 32)
    (.seq
    (.seq
    (.reg [
      ⟨some 33, .move (.tmp 8), none⟩,
      ⟨some 34, .binOp .geq 3 (.tmp 33) (.const (.int .i64 50)) 3, none⟩])
    (.cond (.tmp 34)
      (.seq
      (.reg [
        ⟨some 35, .move (.tmp 0), none⟩,
        ⟨some 36, .move (.tmp 10), none⟩,
        ⟨some 37, .call { callee := .value (.func 115), args := #[.tmp 35, .tmp 36, .tmp 9], argTypes := #[22, 3, 88] }, none⟩,
        ⟨some 10, .assign (.tmp 37), none⟩])
      (.seq
      (.reg [
        ⟨some 38, .move (.tmp 0), none⟩,
        ⟨some 39, .move (.tmp 11), none⟩,
        ⟨some 40, .call { callee := .value (.func 115), args := #[.tmp 38, .tmp 39, .tmp 9], argTypes := #[22, 3, 88] }, none⟩,
        ⟨some 11, .assign (.tmp 40), none⟩])
      (.reg [
        ⟨some 41, .move (.tmp 0), none⟩,
        ⟨some 42, .move (.tmp 12), none⟩,
        ⟨some 43, .call { callee := .value (.func 115), args := #[.tmp 41, .tmp 42, .tmp 9], argTypes := #[22, 3, 88] }, none⟩,
        ⟨some 12, .assign (.tmp 43), none⟩])))
      .skip))
    (.reg [
      ⟨some 44, .move (.tmp 0), none⟩,
      ⟨some 45, .move (.tmp 10), none⟩,
      ⟨some 46, .move (.tmp 11), none⟩,
      ⟨some 47, .move (.tmp 12), none⟩,
      ⟨some 48, .call { callee := .value (.func 116), args := #[.tmp 44, .tmp 45, .tmp 46, .tmp 47, .tmp 9], argTypes := #[22, 3, 3, 3, 88] }, none⟩,
      ⟨some 11, .assign (.tmp 48), none⟩]))
    .skip))
  (.seq
  (.reg [
    ⟨some 49, .load 3 (.tmp 9), none⟩])
  (.block 0
  (.seq
  (.reg [
    ⟨some 52, .binOp .eql 3 (.tmp 49) (.const (.int .i64 0)) 3, none⟩,
    ⟨some 51, .assign (.tmp 52), none⟩])
  (.cond (.tmp 51)
    (.seq
    (.reg [
      ⟨some 53, .move (.tmp 11), none⟩,
      ⟨some 6, .assign (.tmp 53), none⟩,
      ⟨some 7, .assign (.const (.int .i64 1)), none⟩])
    .ret)
    (.seq
    (.reg [
      ⟨some 55, .binOp .eql 3 (.tmp 49) (.const (.int .i64 12)) 3, none⟩,
      ⟨some 54, .assign (.tmp 55), none⟩])
    (.cond (.tmp 54)
      (.seq
      (.reg [
        ⟨some 56, .move (.tmp 11), none⟩,
        ⟨some 6, .assign (.tmp 56), none⟩,
        ⟨some 7, .assign (.const (.int .i64 2)), none⟩])
      .ret)
      (.seq
      (.reg [
        ⟨some 50, .move (.tmp 11), none⟩,
        ⟨some 6, .assign (.tmp 50), none⟩,
        ⟨some 7, .assign (.const (.int .i64 0)), none⟩])
      .ret))))))))))))))
theorem hd106 : Try.f106.body.map dec = some c106 := by kernel_rfl
theorem e106 {R : AV → AH → Prop} {h : AH} (x0 x1 x2 : AV) (H : h.wf → AI Try.prog c106 (RetQ Try.prog [.tmp 6, .tmp 7] R) [x0, x1, x2, un, un, un, un, un, un, un, un, un, un, un, un, un, un, un, un, un, un, un, un, un, un, un, un, un, un, un, un, un, un, un, un, un, un, un, un, un, un, un, un, un, un, un, un, un, un, un, un, un, un, un, un, un, un] h) : AC Try.prog 106 [x0, x1, x2] h R :=
  AC_of' (rs := [.tmp 6, .tmp 7]) Try.func106 (by kernel_rfl) hd106 Try.ntmps106 rfl H

noncomputable def rg107_0 : Array Oper := rawAt Try.f107 0
/-- slices.reverseRangeOrdered[int] -/
noncomputable def c107 : IC :=
  (.seq
  (.reg [
    ⟨some 8, .move (.tmp 1), none⟩,
    ⟨some 6, .assign (.tmp 8), none⟩])
  (.seq
  (.reg [
    ⟨some 9, .move (.tmp 2), none⟩,
    ⟨some 10, .binOp .sub 3 (.tmp 9) (.const (.int .i64 1)) 3, none⟩,
    ⟨some 7, .assign (.tmp 10), none⟩])
  (.block 0
  (.loop
    (.seq
    (.seq
    (.reg [
      ⟨some 11, .move (.tmp 6), none⟩,
      ⟨some 12, .move (.tmp 7), none⟩,
      ⟨some 13, .binOp .lss 3 (.tmp 11) (.tmp 12) 3, none⟩])
    (.cond (.tmp 13)
      .skip
      (.exit 0)))
    (.block 1
    (.seq
    (.raw (.region 3 rg107_0 true))
    (.seq
    (.reg [
      ⟨some 28, .move (.tmp 6), none⟩,
      ⟨some 29, .binOp .add 3 (.tmp 28) (.const (.int .i64 1)) 3, none⟩,
      ⟨some 6, .assign (.tmp 29), none⟩])
    (.reg [
      ⟨some 30, .move (.tmp 7), none⟩,
      ⟨some 31, .binOp .sub 3 (.tmp 30) (.const (.int .i64 1)) 3, none⟩,
      ⟨some 7, .assign (.tmp 31), none⟩])))))))))
theorem hd107 : Try.f107.body.map dec = some c107 := by kernel_rfl
theorem e107 {R : AV → AH → Prop} {h : AH} (x0 x1 x2 : AV) (H : h.wf → AI Try.prog c107 (RetQ Try.prog [] R) [x0, x1, x2, un, un, un, un, un, un, un, un, un, un, un, un, un, un, un, un, un, un, un, un, un, un, un, un, un, un, un, un, un] h) : AC Try.prog 107 [x0, x1, x2] h R :=
  AC_of' (rs := []) Try.func107 (by kernel_rfl) hd107 Try.ntmps107 rfl H
theorem dz107_0 {h0 : AH} {L : List It} {Q : Exit → List AV → List It → Prop} {a : List AV} {id : Nat} (H : LX Try.prog ⟨[13, 15], []⟩ h0 L L (.c (⟨some 14, .move (.tmp 0), none⟩, .p) <| .c (⟨some 15, .move (.tmp 6), none⟩, .p) <| .c (⟨some 16, .move (.tmp 0), none⟩, .p) <| .c (⟨some 17, .move (.tmp 7), none⟩, .p) <| .c (⟨some 18, .move (.tmp 0), none⟩, .p) <| .c (⟨some 19, .move (.tmp 7), none⟩, .p) <| .c (⟨some 20, .indexAddr 22 (.tmp 18) (.tmp 19), none⟩, .p) <| .c (⟨some 21, .load 3 (.tmp 20), none⟩, .l) <| .c (⟨some 22, .move (.tmp 0), none⟩, .p) <| .c (⟨some 23, .move (.tmp 6), none⟩, .p) <| .c (⟨some 24, .indexAddr 22 (.tmp 22) (.tmp 23), none⟩, .p) <| .c (⟨some 25, .load 3 (.tmp 24), none⟩, .l) <| .c (⟨some 26, .indexAddr 22 (.tmp 14) (.tmp 15), none⟩, .p) <| .c (⟨none, .store 3 (.tmp 26) (.tmp 21), none⟩, .f) <| .c (⟨some 27, .indexAddr 22 (.tmp 16) (.tmp 17), none⟩, .p) <| .c (⟨none, .store 3 (.tmp 27) (.tmp 25), none⟩, .f) <| .n) Q a) : LI Try.prog h0 L (.raw (.region id rg107_0 true)) Q a :=
  LI_draw (.c (0, .p) <| .c (1, .p) <| .c (2, .p) <| .c (3, .p) <| .c (4, .p) <| .c (5, .p) <| .c (6, .p) <| .c (7, .l) <| .c (8, .p) <| .c (9, .p) <| .c (10, .p) <| .c (11, .l) <| .c (12, .p) <| .c (13, .f) <| .c (14, .p) <| .c (15, .f) <| .n) [13, 15] (by kernel_rfl) (by kernel_rfl) (by kernel_rfl) H
theorem dr107_0 (m : Nat) {Q : Exit → List AV → AH → Prop} {a : List AV} {h : AH} {id : Nat} (H : AX Try.prog m h [(⟨some 14, .move (.tmp 0), none⟩, true),
  (⟨some 15, .move (.tmp 6), none⟩, true),
  (⟨some 16, .move (.tmp 0), none⟩, true),
  (⟨some 17, .move (.tmp 7), none⟩, true),
  (⟨some 18, .move (.tmp 0), none⟩, true),
  (⟨some 19, .move (.tmp 7), none⟩, true),
  (⟨some 20, .indexAddr 22 (.tmp 18) (.tmp 19), none⟩, true),
  (⟨some 21, .load 3 (.tmp 20), none⟩, true),
  (⟨some 22, .move (.tmp 0), none⟩, true),
  (⟨some 23, .move (.tmp 6), none⟩, true),
  (⟨some 24, .indexAddr 22 (.tmp 22) (.tmp 23), none⟩, true),
  (⟨some 25, .load 3 (.tmp 24), none⟩, true),
  (⟨some 26, .indexAddr 22 (.tmp 14) (.tmp 15), none⟩, true),
  (⟨none, .store 3 (.tmp 26) (.tmp 21), none⟩, false),
  (⟨some 27, .indexAddr 22 (.tmp 16) (.tmp 17), none⟩, true),
  (⟨none, .store 3 (.tmp 27) (.tmp 25), none⟩, false)] (fun a' h' => Q .normal a' h') a h) : AI Try.prog (.raw (.region id rg107_0 true)) Q a h :=
  AI_draw [(0, true), (1, true), (2, true), (3, true), (4, true), (5, true), (6, true), (7, true), (8, true), (9, true), (10, true), (11, true), (12, true), (13, false), (14, true), (15, false)] m (by kernel_rfl) (by kernel_rfl) (by kernel_rfl) H

noncomputable def rg108_0 : Array Oper := rawAt Try.f108 0
-- NO ORDER
noncomputable def rg108_1 : Array Oper := rawAt Try.f108 1
noncomputable def rg108_2 : Array Oper := rawAt Try.f108 2
noncomputable def rg108_3 : Array Oper := rawAt Try.f108 3
noncomputable def rg108_4 : Array Oper := rawAt Try.f108 4
noncomputable def rg108_5 : Array Oper := rawAt Try.f108 5
/-- slices.partialInsertionSortOrdered[int] -/
noncomputable def c108 : IC :=
  (.seq
  (.reg [
    ⟨some 6, .assign (.const (.bool false)), none⟩])
  (.seq
  (.reg [
    ⟨some 11, .move (.tmp 1), none⟩,
    ⟨some 12, .binOp .add 3 (.tmp 11) (.const (.int .i64 1)) 3, none⟩,
    ⟨some 7, .assign (.tmp 12), none⟩])
  (.seq
  (.seq
  (.reg [
    ⟨some 8, .assign (.const (.int .i64 0)), none⟩])
  (.block 0
  (.loop
    (.seq
    (.seq
    (.reg [
      ⟨some 13, .move (.tmp 8), none⟩,
      ⟨some 14, .binOp .lss 3 (.tmp 13) (.const (.int .i64 5)) 3, none⟩])
    (.cond (.tmp 14)
      .skip
      (.exit 0)))
    (.seq
    (.block 1
    (.seq
    (.block 2
    (.loop
      (.seq
      (.seq
      (.raw (.region 5 rg108_0 true))
      (.cond (.tmp 32)
        .skip
        (.exit 2)))
      (.block 3
      (.reg [
        ⟨some 33, .move (.tmp 7), none⟩,
        ⟨some 34, .binOp .add 3 (.tmp 33) (.const (.int .i64 1)) 3, none⟩,
        ⟨some 7, .assign (.tmp 34), none⟩])))))
    (.seq
    (.seq
    (.reg [
      ⟨some 35, .move (.tmp 7), none⟩,
      ⟨some 36, .move (.tmp 2), none⟩,
      ⟨some 37, .binOp .eql 3 (.tmp 35) (.tmp 36) 3, none⟩])
    (.cond (.tmp 37)
      (.seq
      (.reg [
        ⟨some 6, .assign (.const (.bool true)), none⟩])
      .ret)
      .skip))
    (.seq
    (.seq
    (.reg [
      ⟨some 38, .move (.tmp 2), none⟩,
      ⟨some 39, .move (.tmp 1), none⟩,
      ⟨some 40, .binOp .sub 3 (.tmp 38) (.tmp 39) 3, none⟩,
      ⟨some 41, .binOp .lss 3 (.tmp 40) (.const (.int .i64 50)) 3, none⟩])
    (.cond (.tmp 41)
      (.seq
      (.reg [
        ⟨some 6, .assign (.const (.bool false)), none⟩])
      .ret)
      .skip))
    (.seq
    (.raw (.region 11 rg108_1 true))
    (.seq
    (.seq
    (.reg [
      ⟨some 58, .move (.tmp 7), none⟩,
      ⟨some 59, .move (.tmp 1), none⟩,
      ⟨some 60, .binOp .sub 3 (.tmp 58) (.tmp 59) 3, none⟩,
      ⟨some 61, .binOp .geq 3 (.tmp 60) (.const (.int .i64 2)) 3, none⟩])
    (.cond (.tmp 61)
      (.seq
      (.reg [
        ⟨some 62, .move (.tmp 7), none⟩,
        ⟨some 63, .binOp .sub 3 (.tmp 62) (.const (.int .i64 1)) 3, none⟩,
        ⟨some 9, .assign (.tmp 63), none⟩])
      (.block 4
      (.loop
        (.seq
        (.seq
        (.reg [
          ⟨some 64, .move (.tmp 9), none⟩,
          ⟨some 65, .binOp .geq 3 (.tmp 64) (.const (.int .i64 1)) 3, none⟩])
        (.cond (.tmp 65)
          .skip
          (.exit 4)))
        (.seq
        (.block 5
        (.seq
        (.seq
        (.raw (.region 16 rg108_2 true))
        (.cond (.tmp 78)
          (.exit 4)
          .skip))
        (.raw (.region 17 rg108_3 true))))
        (.reg [
          ⟨some 66, .move (.tmp 9), none⟩,
          ⟨some 67, .binOp .sub 3 (.tmp 66) (.const (.int .i64 1)) 3, none⟩,
          ⟨some 9, .assign (.tmp 67), none⟩]))))))
      .skip))
    (.seq
    (.reg [
      ⟨some 95, .move (.tmp 2), none⟩,
      ⟨some 96, .move (.tmp 7), none⟩,
      ⟨some 97, .binOp .sub 3 (.tmp 95) (.tmp 96) 3, none⟩,
      ⟨some 98, .binOp .geq 3 (.tmp 97) (.const (.int .i64 2)) 3, none⟩])
    (.cond (.tmp 98)
      (.seq
      (.reg [
        ⟨some 99, .move (.tmp 7), none⟩,
        ⟨some 100, .binOp .add 3 (.tmp 99) (.const (.int .i64 1)) 3, none⟩,
        ⟨some 10, .assign (.tmp 100), none⟩])
      (.block 6
      (.loop
        (.seq
        (.seq
        (.reg [
          ⟨some 101, .move (.tmp 10), none⟩,
          ⟨some 102, .move (.tmp 2), none⟩,
          ⟨some 103, .binOp .lss 3 (.tmp 101) (.tmp 102) 3, none⟩])
        (.cond (.tmp 103)
          .skip
          (.exit 6)))
        (.seq
        (.block 7
        (.seq
        (.seq
        (.raw (.region 22 rg108_4 true))
        (.cond (.tmp 116)
          (.exit 6)
          .skip))
        (.raw (.region 23 rg108_5 true))))
        (.reg [
          ⟨some 104, .move (.tmp 10), none⟩,
          ⟨some 105, .binOp .add 3 (.tmp 104) (.const (.int .i64 1)) 3, none⟩,
          ⟨some 10, .assign (.tmp 105), none⟩]))))))
      .skip))))))))
    (.reg [
      ⟨some 15, .move (.tmp 8), none⟩,
      ⟨some 16, .binOp .add 3 (.tmp 15) (.const (.int .i64 1)) 3, none⟩,
      ⟨some 8, .assign (.tmp 16), none⟩]))))))
  (.seq
  (.reg [
    ⟨some 6, .assign (.const (.bool false)), none⟩])
  .ret))))
theorem hd108 : Try.f108.body.map dec = some c108 := by kernel_rfl
theorem e108 {R : AV → AH → Prop} {h : AH} (x0 x1 x2 : AV) (H : h.wf → AI Try.prog c108 (RetQ Try.prog [.tmp 6] R) [x0, x1, x2, un, un, un, un, un, un, un, un, un, un, un, un, un, un, un, un, un, un, un, un, un, un, un, un, un, un, un, un, un, un, un, un, un, un, un, un, un, un, un, un, un, un, un, un, un, un, un, un, un, un, un, un, un, un, un, un, un, un, un, un, un, un, un, un, un, un, un, un, un, un, un, un, un, un, un, un, un, un, un, un, un, un, un, un, un, un, un, un, un, un, un, un, un, un, un, un, un, un, un, un, un, un, un, un, un, un, un, un, un, un, un, un, un, un, un, un, un, un, un, un, un, un, un, un, un, un, un, un, un, un] h) : AC Try.prog 108 [x0, x1, x2] h R :=
  AC_of' (rs := [.tmp 6]) Try.func108 (by kernel_rfl) hd108 Try.ntmps108 rfl H
theorem dz108_0 {h0 : AH} {L : List It} {Q : Exit → List AV → List It → Prop} {a : List AV} {id : Nat} (H : LX Try.prog ⟨[], []⟩ h0 L L (.c (⟨some 17, .move (.tmp 7), none⟩, .p) <| .c (⟨some 18, .move (.tmp 2), none⟩, .p) <| .c (⟨some 19, .binOp .lss 3 (.tmp 17) (.tmp 18) 3, none⟩, .p) <| .c (⟨some 20, .move (.tmp 19), none⟩, .p) <| .c (⟨some 21, .move (.tmp 0), some (20, true)⟩, .p) <| .c (⟨some 22, .move (.tmp 7), some (20, true)⟩, .p) <| .c (⟨some 23, .indexAddr 22 (.tmp 21) (.tmp 22), some (20, true)⟩, .p) <| .c (⟨some 24, .load 3 (.tmp 23), some (20, true)⟩, .l) <| .c (⟨some 25, .move (.tmp 0), some (20, true)⟩, .p) <| .c (⟨some 26, .move (.tmp 7), some (20, true)⟩, .p) <| .c (⟨some 27, .binOp .sub 3 (.tmp 26) (.const (.int .i64 1)) 3, some (20, true)⟩, .p) <| .c (⟨some 28, .indexAddr 22 (.tmp 25) (.tmp 27), some (20, true)⟩, .p) <| .c (⟨some 29, .load 3 (.tmp 28), some (20, true)⟩, .l) <| .c (⟨some 30, .call { callee := .value (.func 109), args := #[.tmp 24, .tmp 29], argTypes := #[3, 3] }, some (20, true)⟩, .e) <| .c (⟨some 31, .unOp .not 4 (.tmp 30), some (20, true)⟩, .p) <| .c (⟨some 32, .pick (.tmp 20) (.tmp 31) (.const (.bool false)), none⟩, .p) <| .n) Q a) : LI Try.prog h0 L (.raw (.region id rg108_0 true)) Q a :=
  LI_draw (.c (0, .p) <| .c (1, .p) <| .c (2, .p) <| .c (3, .p) <| .c (4, .p) <| .c (5, .p) <| .c (6, .p) <| .c (7, .l) <| .c (8, .p) <| .c (9, .p) <| .c (10, .p) <| .c (11, .p) <| .c (12, .l) <| .c (13, .e) <| .c (14, .p) <| .c (15, .p) <| .n) [] (by kernel_rfl) (by kernel_rfl) (by kernel_rfl) H
theorem dy108_0 {h0 : AH} {L : List It} {Q : Exit → List AV → List It → Prop} {a : List AV} {id : Nat} (H : LX Try.prog ⟨[13], []⟩ h0 L L (.c (⟨some 17, .move (.tmp 7), none⟩, .p) <| .c (⟨some 18, .move (.tmp 2), none⟩, .p) <| .c (⟨some 19, .binOp .lss 3 (.tmp 17) (.tmp 18) 3, none⟩, .p) <| .c (⟨some 20, .move (.tmp 19), none⟩, .p) <| .c (⟨some 21, .move (.tmp 0), some (20, true)⟩, .p) <| .c (⟨some 22, .move (.tmp 7), some (20, true)⟩, .p) <| .c (⟨some 23, .indexAddr 22 (.tmp 21) (.tmp 22), some (20, true)⟩, .p) <| .c (⟨some 24, .load 3 (.tmp 23), some (20, true)⟩, .l) <| .c (⟨some 25, .move (.tmp 0), some (20, true)⟩, .p) <| .c (⟨some 26, .move (.tmp 7), some (20, true)⟩, .p) <| .c (⟨some 27, .binOp .sub 3 (.tmp 26) (.const (.int .i64 1)) 3, some (20, true)⟩, .p) <| .c (⟨some 28, .indexAddr 22 (.tmp 25) (.tmp 27), some (20, true)⟩, .p) <| .c (⟨some 29, .load 3 (.tmp 28), some (20, true)⟩, .l) <| .c (⟨some 30, .call { callee := .value (.func 109), args := #[.tmp 24, .tmp 29], argTypes := #[3, 3] }, some (20, true)⟩, .f) <| .c (⟨some 31, .unOp .not 4 (.tmp 30), some (20, true)⟩, .p) <| .c (⟨some 32, .pick (.tmp 20) (.tmp 31) (.const (.bool false)), none⟩, .p) <| .n) Q a) : LI Try.prog h0 L (.raw (.region id rg108_0 true)) Q a :=
  LI_draw (.c (0, .p) <| .c (1, .p) <| .c (2, .p) <| .c (3, .p) <| .c (4, .p) <| .c (5, .p) <| .c (6, .p) <| .c (7, .l) <| .c (8, .p) <| .c (9, .p) <| .c (10, .p) <| .c (11, .p) <| .c (12, .l) <| .c (13, .f) <| .c (14, .p) <| .c (15, .p) <| .n) [13] (by kernel_rfl) (by kernel_rfl) (by kernel_rfl) H
theorem dz108_1 {h0 : AH} {L : List It} {Q : Exit → List AV → List It → Prop} {a : List AV} {id : Nat} (H : LX Try.prog ⟨[15, 17], []⟩ h0 L L (.c (⟨some 42, .move (.tmp 0), none⟩, .p) <| .c (⟨some 43, .move (.tmp 7), none⟩, .p) <| .c (⟨some 44, .move (.tmp 0), none⟩, .p) <| .c (⟨some 45, .move (.tmp 7), none⟩, .p) <| .c (⟨some 46, .binOp .sub 3 (.tmp 45) (.const (.int .i64 1)) 3, none⟩, .p) <| .c (⟨some 47, .move (.tmp 0), none⟩, .p) <| .c (⟨some 48, .move (.tmp 7), none⟩, .p) <| .c (⟨some 49, .binOp .sub 3 (.tmp 48) (.const (.int .i64 1)) 3, none⟩, .p) <| .c (⟨some 50, .indexAddr 22 (.tmp 47) (.tmp 49), none⟩, .p) <| .c (⟨some 51, .load 3 (.tmp 50), none⟩, .l) <| .c (⟨some 52, .move (.tmp 0), none⟩, .p) <| .c (⟨some 53, .move (.tmp 7), none⟩, .p) <| .c (⟨some 54, .indexAddr 22 (.tmp 52) (.tmp 53), none⟩, .p) <| .c (⟨some 55, .load 3 (.tmp 54), none⟩, .l) <| .c (⟨some 56, .indexAddr 22 (.tmp 42) (.tmp 43), none⟩, .p) <| .c (⟨none, .store 3 (.tmp 56) (.tmp 51), none⟩, .f) <| .c (⟨some 57, .indexAddr 22 (.tmp 44) (.tmp 46), none⟩, .p) <| .c (⟨none, .store 3 (.tmp 57) (.tmp 55), none⟩, .f) <| .n) Q a) : LI Try.prog h0 L (.raw (.region id rg108_1 true)) Q a :=
  LI_draw (.c (0, .p) <| .c (1, .p) <| .c (2, .p) <| .c (3, .p) <| .c (4, .p) <| .c (5, .p) <| .c (6, .p) <| .c (7, .p) <| .c (8, .p) <| .c (9, .l) <| .c (10, .p) <| .c (11, .p) <| .c (12, .p) <| .c (13, .l) <| .c (14, .p) <| .c (15, .f) <| .c (16, .p) <| .c (17, .f) <| .n) [15, 17] (by kernel_rfl) (by kernel_rfl) (by kernel_rfl) H
theorem dr108_1 (m : Nat) {Q : Exit → List AV → AH → Prop} {a : List AV} {h : AH} {id : Nat} (H : AX Try.prog m h [(⟨some 42, .move (.tmp 0), none⟩, true),
  (⟨some 43, .move (.tmp 7), none⟩, true),
  (⟨some 44, .move (.tmp 0), none⟩, true),
  (⟨some 45, .move (.tmp 7), none⟩, true),
  (⟨some 46, .binOp .sub 3 (.tmp 45) (.const (.int .i64 1)) 3, none⟩, true),
  (⟨some 47, .move (.tmp 0), none⟩, true),
  (⟨some 48, .move (.tmp 7), none⟩, true),
  (⟨some 49, .binOp .sub 3 (.tmp 48) (.const (.int .i64 1)) 3, none⟩, true),
  (⟨some 50, .indexAddr 22 (.tmp 47) (.tmp 49), none⟩, true),
  (⟨some 51, .load 3 (.tmp 50), none⟩, true),
  (⟨some 52, .move (.tmp 0), none⟩, true),
  (⟨some 53, .move (.tmp 7), none⟩, true),
  (⟨some 54, .indexAddr 22 (.tmp 52) (.tmp 53), none⟩, true),
  (⟨some 55, .load 3 (.tmp 54), none⟩, true),
  (⟨some 56, .indexAddr 22 (.tmp 42) (.tmp 43), none⟩, true),
  (⟨none, .store 3 (.tmp 56) (.tmp 51), none⟩, false),
  (⟨some 57, .indexAddr 22 (.tmp 44) (.tmp 46), none⟩, true),
  (⟨none, .store 3 (.tmp 57) (.tmp 55), none⟩, false)] (fun a' h' => Q .normal a' h') a h) : AI Try.prog (.raw (.region id rg108_1 true)) Q a h :=
  AI_draw [(0, true), (1, true), (2, true), (3, true), (4, true), (5, true), (6, true), (7, true), (8, true), (9, true), (10, true), (11, true), (12, true), (13, true), (14, true), (15, false), (16, true), (17, false)] m (by kernel_rfl) (by kernel_rfl) (by kernel_rfl) H
theorem dz108_2 {h0 : AH} {L : List It} {Q : Exit → List AV → List It → Prop} {a : List AV} {id : Nat} (H : LX Try.prog ⟨[], []⟩ h0 L L (.c (⟨some 68, .move (.tmp 0), none⟩, .p) <| .c (⟨some 69, .move (.tmp 9), none⟩, .p) <| .c (⟨some 70, .indexAddr 22 (.tmp 68) (.tmp 69), none⟩, .p) <| .c (⟨some 71, .load 3 (.tmp 70), none⟩, .l) <| .c (⟨some 72, .move (.tmp 0), none⟩, .p) <| .c (⟨some 73, .move (.tmp 9), none⟩, .p) <| .c (⟨some 74, .binOp .sub 3 (.tmp 73) (.const (.int .i64 1)) 3, none⟩, .p) <| .c (⟨some 75, .indexAddr 22 (.tmp 72) (.tmp 74), none⟩, .p) <| .c (⟨some 76, .load 3 (.tmp 75), none⟩, .l) <| .c (⟨some 77, .call { callee := .value (.func 109), args := #[.tmp 71, .tmp 76], argTypes := #[3, 3] }, none⟩, .e) <| .c (⟨some 78, .unOp .not 4 (.tmp 77), none⟩, .p) <| .n) Q a) : LI Try.prog h0 L (.raw (.region id rg108_2 true)) Q a :=
  LI_draw (.c (0, .p) <| .c (1, .p) <| .c (2, .p) <| .c (3, .l) <| .c (4, .p) <| .c (5, .p) <| .c (6, .p) <| .c (7, .p) <| .c (8, .l) <| .c (9, .e) <| .c (10, .p) <| .n) [] (by kernel_rfl) (by kernel_rfl) (by kernel_rfl) H
theorem dy108_2 {h0 : AH} {L : List It} {Q : Exit → List AV → List It → Prop} {a : List AV} {id : Nat} (H : LX Try.prog ⟨[9], []⟩ h0 L L (.c (⟨some 68, .move (.tmp 0), none⟩, .p) <| .c (⟨some 69, .move (.tmp 9), none⟩, .p) <| .c (⟨some 70, .indexAddr 22 (.tmp 68) (.tmp 69), none⟩, .p) <| .c (⟨some 71, .load 3 (.tmp 70), none⟩, .l) <| .c (⟨some 72, .move (.tmp 0), none⟩, .p) <| .c (⟨some 73, .move (.tmp 9), none⟩, .p) <| .c (⟨some 74, .binOp .sub 3 (.tmp 73) (.const (.int .i64 1)) 3, none⟩, .p) <| .c (⟨some 75, .indexAddr 22 (.tmp 72) (.tmp 74), none⟩, .p) <| .c (⟨some 76, .load 3 (.tmp 75), none⟩, .l) <| .c (⟨some 77, .call { callee := .value (.func 109), args := #[.tmp 71, .tmp 76], argTypes := #[3, 3] }, none⟩, .f) <| .c (⟨some 78, .unOp .not 4 (.tmp 77), none⟩, .p) <| .n) Q a) : LI Try.prog h0 L (.raw (.region id rg108_2 true)) Q a :=
  LI_draw (.c (0, .p) <| .c (1, .p) <| .c (2, .p) <| .c (3, .l) <| .c (4, .p) <| .c (5, .p) <| .c (6, .p) <| .c (7, .p) <| .c (8, .l) <| .c (9, .f) <| .c (10, .p) <| .n) [9] (by kernel_rfl) (by kernel_rfl) (by kernel_rfl) H
theorem dr108_2 (m : Nat) {Q : Exit → List AV → AH → Prop} {a : List AV} {h : AH} {id : Nat} (H : AX Try.prog m h [(⟨some 68, .move (.tmp 0), none⟩, true),
  (⟨some 69, .move (.tmp 9), none⟩, true),
  (⟨some 70, .indexAddr 22 (.tmp 68) (.tmp 69), none⟩, true),
  (⟨some 71, .load 3 (.tmp 70), none⟩, true),
  (⟨some 72, .move (.tmp 0), none⟩, true),
  (⟨some 73, .move (.tmp 9), none⟩, true),
  (⟨some 74, .binOp .sub 3 (.tmp 73) (.const (.int .i64 1)) 3, none⟩, true),
  (⟨some 75, .indexAddr 22 (.tmp 72) (.tmp 74), none⟩, true),
  (⟨some 76, .load 3 (.tmp 75), none⟩, true),
  (⟨some 77, .call { callee := .value (.func 109), args := #[.tmp 71, .tmp 76], argTypes := #[3, 3] }, none⟩, false),
  (⟨some 78, .unOp .not 4 (.tmp 77), none⟩, true)] (fun a' h' => Q .normal a' h') a h) : AI Try.prog (.raw (.region id rg108_2 true)) Q a h :=
  AI_draw [(0, true), (1, true), (2, true), (3, true), (4, true), (5, true), (6, true), (7, true), (8, true), (9, false), (10, true)] m (by kernel_rfl) (by kernel_rfl) (by kernel_rfl) H
theorem dz108_3 {h0 : AH} {L : List It} {Q : Exit → List AV → List It → Prop} {a : List AV} {id : Nat} (H : LX Try.prog ⟨[15, 17], []⟩ h0 L L (.c (⟨some 79, .move (.tmp 0), none⟩, .p) <| .c (⟨some 80, .move (.tmp 9), none⟩, .p) <| .c (⟨some 81, .move (.tmp 0), none⟩, .p) <| .c (⟨some 82, .move (.tmp 9), none⟩, .p) <| .c (⟨some 83, .binOp .sub 3 (.tmp 82) (.const (.int .i64 1)) 3, none⟩, .p) <| .c (⟨some 84, .move (.tmp 0), none⟩, .p) <| .c (⟨some 85, .move (.tmp 9), none⟩, .p) <| .c (⟨some 86, .binOp .sub 3 (.tmp 85) (.const (.int .i64 1)) 3, none⟩, .p) <| .c (⟨some 87, .indexAddr 22 (.tmp 84) (.tmp 86), none⟩, .p) <| .c (⟨some 88, .load 3 (.tmp 87), none⟩, .l) <| .c (⟨some 89, .move (.tmp 0), none⟩, .p) <| .c (⟨some 90, .move (.tmp 9), none⟩, .p) <| .c (⟨some 91, .indexAddr 22 (.tmp 89) (.tmp 90), none⟩, .p) <| .c (⟨some 92, .load 3 (.tmp 91), none⟩, .l) <| .c (⟨some 93, .indexAddr 22 (.tmp 79) (.tmp 80), none⟩, .p) <| .c (⟨none, .store 3 (.tmp 93) (.tmp 88), none⟩, .f) <| .c (⟨some 94, .indexAddr 22 (.tmp 81) (.tmp 83), none⟩, .p) <| .c (⟨none, .store 3 (.tmp 94) (.tmp 92), none⟩, .f) <| .n) Q a) : LI Try.prog h0 L (.raw (.region id rg108_3 true)) Q a :=
  LI_draw (.c (0, .p) <| .c (1, .p) <| .c (2, .p) <| .c (3, .p) <| .c (4, .p) <| .c (5, .p) <| .c (6, .p) <| .c (7, .p) <| .c (8, .p) <| .c (9, .l) <| .c (10, .p) <| .c (11, .p) <| .c (12, .p) <| .c (13, .l) <| .c (14, .p) <| .c (15, .f) <| .c (16, .p) <| .c (17, .f) <| .n) [15, 17] (by kernel_rfl) (by kernel_rfl) (by kernel_rfl) H
theorem dr108_3 (m : Nat) {Q : Exit → List AV → AH → Prop} {a : List AV} {h : AH} {id : Nat} (H : AX Try.prog m h [(⟨some 79, .move (.tmp 0), none⟩, true),
  (⟨some 80, .move (.tmp 9), none⟩, true),
  (⟨some 81, .move (.tmp 0), none⟩, true),
  (⟨some 82, .move (.tmp 9), none⟩, true),
  (⟨some 83, .binOp .sub 3 (.tmp 82) (.const (.int .i64 1)) 3, none⟩, true),
  (⟨some 84, .move (.tmp 0), none⟩, true),
  (⟨some 85, .move (.tmp 9), none⟩, true),
  (⟨some 86, .binOp .sub 3 (.tmp 85) (.const (.int .i64 1)) 3, none⟩, true),
  (⟨some 87, .indexAddr 22 (.tmp 84) (.tmp 86), none⟩, true),
  (⟨some 88, .load 3 (.tmp 87), none⟩, true),
  (⟨some 89, .move (.tmp 0), none⟩, true),
  (⟨some 90, .move (.tmp 9), none⟩, true),
  (⟨some 91, .indexAddr 22 (.tmp 89) (.tmp 90), none⟩, true),
  (⟨some 92, .load 3 (.tmp 91), none⟩, true),
  (⟨some 93, .indexAddr 22 (.tmp 79) (.tmp 80), none⟩, true),
  (⟨none, .store 3 (.tmp 93) (.tmp 88), none⟩, false),
  (⟨some 94, .indexAddr 22 (.tmp 81) (.tmp 83), none⟩, true),
  (⟨none, .store 3 (.tmp 94) (.tmp 92), none⟩, false)] (fun a' h' => Q .normal a' h') a h) : AI Try.prog (.raw (.region id rg108_3 true)) Q a h :=
  AI_draw [(0, true), (1, true), (2, true), (3, true), (4, true), (5, true), (6, true), (7, true), (8, true), (9, true), (10, true), (11, true), (12, true), (13, true), (14, true), (15, false), (16, true), (17, false)] m (by kernel_rfl) (by kernel_rfl) (by kernel_rfl) H
theorem dz108_4 {h0 : AH} {L : List It} {Q : Exit → List AV → List It → Prop} {a : List AV} {id : Nat} (H : LX Try.prog ⟨[], []⟩ h0 L L (.c (⟨some 106, .move (.tmp 0), none⟩, .p) <| .c (⟨some 107, .move (.tmp 10), none⟩, .p) <| .c (⟨some 108, .indexAddr 22 (.tmp 106) (.tmp 107), none⟩, .p) <| .c (⟨some 109, .load 3 (.tmp 108), none⟩, .l) <| .c (⟨some 110, .move (.tmp 0), none⟩, .p) <| .c (⟨some 111, .move (.tmp 10), none⟩, .p) <| .c (⟨some 112, .binOp .sub 3 (.tmp 111) (.const (.int .i64 1)) 3, none⟩, .p) <| .c (⟨some 113, .indexAddr 22 (.tmp 110) (.tmp 112), none⟩, .p) <| .c (⟨some 114, .load 3 (.tmp 113), none⟩, .l) <| .c (⟨some 115, .call { callee := .value (.func 109), args := #[.tmp 109, .tmp 114], argTypes := #[3, 3] }, none⟩, .e) <| .c (⟨some 116, .unOp .not 4 (.tmp 115), none⟩, .p) <| .n) Q a) : LI Try.prog h0 L (.raw (.region id rg108_4 true)) Q a :=
  LI_draw (.c (0, .p) <| .c (1, .p) <| .c (2, .p) <| .c (3, .l) <| .c (4, .p) <| .c (5, .p) <| .c (6, .p) <| .c (7, .p) <| .c (8, .l) <| .c (9, .e) <| .c (10, .p) <| .n) [] (by kernel_rfl) (by kernel_rfl) (by kernel_rfl) H
theorem dy108_4 {h0 : AH} {L : List It} {Q : Exit → List AV → List It → Prop} {a : List AV} {id : Nat} (H : LX Try.prog ⟨[9], []⟩ h0 L L (.c (⟨some 106, .move (.tmp 0), none⟩, .p) <| .c (⟨some 107, .move (.tmp 10), none⟩, .p) <| .c (⟨some 108, .indexAddr 22 (.tmp 106) (.tmp 107), none⟩, .p) <| .c (⟨some 109, .load 3 (.tmp 108), none⟩, .l) <| .c (⟨some 110, .move (.tmp 0), none⟩, .p) <| .c (⟨some 111, .move (.tmp 10), none⟩, .p) <| .c (⟨some 112, .binOp .sub 3 (.tmp 111) (.const (.int .i64 1)) 3, none⟩, .p) <| .c (⟨some 113, .indexAddr 22 (.tmp 110) (.tmp 112), none⟩, .p) <| .c (⟨some 114, .load 3 (.tmp 113), none⟩, .l) <| .c (⟨some 115, .call { callee := .value (.func 109), args := #[.tmp 109, .tmp 114], argTypes := #[3, 3] }, none⟩, .f) <| .c (⟨some 116, .unOp .not 4 (.tmp 115), none⟩, .p) <| .n) Q a) : LI Try.prog h0 L (.raw (.region id rg108_4 true)) Q a :=
  LI_draw (.c (0, .p) <| .c (1, .p) <| .c (2, .p) <| .c (3, .l) <| .c (4, .p) <| .c (5, .p) <| .c (6, .p) <| .c (7, .p) <| .c (8, .l) <| .c (9, .f) <| .c (10, .p) <| .n) [9] (by kernel_rfl) (by kernel_rfl) (by kernel_rfl) H
theorem dr108_4 (m : Nat) {Q : Exit → List AV → AH → Prop} {a : List AV} {h : AH} {id : Nat} (H : AX Try.prog m h [(⟨some 106, .move (.tmp 0), none⟩, true),
  (⟨some 107, .move (.tmp 10), none⟩, true),
  (⟨some 108, .indexAddr 22 (.tmp 106) (.tmp 107), none⟩, true),
  (⟨some 109, .load 3 (.tmp 108), none⟩, true),
  (⟨some 110, .move (.tmp 0), none⟩, true),
  (⟨some 111, .move (.tmp 10), none⟩, true),
  (⟨some 112, .binOp .sub 3 (.tmp 111) (.const (.int .i64 1)) 3, none⟩, true),
  (⟨some 113, .indexAddr 22 (.tmp 110) (.tmp 112), none⟩, true),
  (⟨some 114, .load 3 (.tmp 113), none⟩, true),
  (⟨some 115, .call { callee := .value (.func 109), args := #[.tmp 109, .tmp 114], argTypes := #[3, 3] }, none⟩, false),
  (⟨some 116, .unOp .not 4 (.tmp 115), none⟩, true)] (fun a' h' => Q .normal a' h') a h) : AI Try.prog (.raw (.region id rg108_4 true)) Q a h :=
  AI_draw [(0, true), (1, true), (2, true), (3, true), (4, true), (5, true), (6, true), (7, true), (8, true), (9, false), (10, true)] m (by kernel_rfl) (by kernel_rfl) (by kernel_rfl) H
theorem dz108_5 {h0 : AH} {L : List It} {Q : Exit → List AV → List It → Prop} {a : List AV} {id : Nat} (H : LX Try.prog ⟨[15, 17], []⟩ h0 L L (.c (⟨some 117, .move (.tmp 0), none⟩, .p) <| .c (⟨some 118, .move (.tmp 10), none⟩, .p) <| .c (⟨some 119, .move (.tmp 0), none⟩, .p) <| .c (⟨some 120, .move (.tmp 10), none⟩, .p) <| .c (⟨some 121, .binOp .sub 3 (.tmp 120) (.const (.int .i64 1)) 3, none⟩, .p) <| .c (⟨some 122, .move (.tmp 0), none⟩, .p) <| .c (⟨some 123, .move (.tmp 10), none⟩, .p) <| .c (⟨some 124, .binOp .sub 3 (.tmp 123) (.const (.int .i64 1)) 3, none⟩, .p) <| .c (⟨some 125, .indexAddr 22 (.tmp 122) (.tmp 124), none⟩, .p) <| .c (⟨some 126, .load 3 (.tmp 125), none⟩, .l) <| .c (⟨some 127, .move (.tmp 0), none⟩, .p) <| .c (⟨some 128, .move (.tmp 10), none⟩, .p) <| .c (⟨some 129, .indexAddr 22 (.tmp 127) (.tmp 128), none⟩, .p) <| .c (⟨some 130, .load 3 (.tmp 129), none⟩, .l) <| .c (⟨some 131, .indexAddr 22 (.tmp 117) (.tmp 118), none⟩, .p) <| .c (⟨none, .store 3 (.tmp 131) (.tmp 126), none⟩, .f) <| .c (⟨some 132, .indexAddr 22 (.tmp 119) (.tmp 121), none⟩, .p) <| .c (⟨none, .store 3 (.tmp 132) (.tmp 130), none⟩, .f) <| .n) Q a) : LI Try.prog h0 L (.raw (.region id rg108_5 true)) Q a :=
  LI_draw (.c (0, .p) <| .c (1, .p) <| .c (2, .p) <| .c (3, .p) <| .c (4, .p) <| .c (5, .p) <| .c (6, .p) <| .c (7, .p) <| .c (8, .p) <| .c (9, .l) <| .c (10, .p) <| .c (11, .p) <| .c (12, .p) <| .c (13, .l) <| .c (14, .p) <| .c (15, .f) <| .c (16, .p) <| .c (17, .f) <| .n) [15, 17] (by kernel_rfl) (by kernel_rfl) (by kernel_rfl) H
theorem dr108_5 (m : Nat) {Q : Exit → List AV → AH → Prop} {a : List AV} {h : AH} {id : Nat} (H : AX Try.prog m h [(⟨some 117, .move (.tmp 0), none⟩, true),
  (⟨some 118, .move (.tmp 10), none⟩, true),
  (⟨some 119, .move (.tmp 0), none⟩, true),
  (⟨some 120, .move (.tmp 10), none⟩, true),
  (⟨some 121, .binOp .sub 3 (.tmp 120) (.const (.int .i64 1)) 3, none⟩, true),
  (⟨some 122, .move (.tmp 0), none⟩, true),
  (⟨some 123, .move (.tmp 10), none⟩, true),
  (⟨some 124, .binOp .sub 3 (.tmp 123) (.const (.int .i64 1)) 3, none⟩, true),
  (⟨some 125, .indexAddr 22 (.tmp 122) (.tmp 124), none⟩, true),
  (⟨some 126, .load 3 (.tmp 125), none⟩, true),
  (⟨some 127, .move (.tmp 0), none⟩, true),
  (⟨some 128, .move (.tmp 10), none⟩, true),
  (⟨some 129, .indexAddr 22 (.tmp 127) (.tmp 128), none⟩, true),
  (⟨some 130, .load 3 (.tmp 129), none⟩, true),
  (⟨some 131, .indexAddr 22 (.tmp 117) (.tmp 118), none⟩, true),
  (⟨none, .store 3 (.tmp 131) (.tmp 126), none⟩, false),
  (⟨some 132, .indexAddr 22 (.tmp 119) (.tmp 121), none⟩, true),
  (⟨none, .store 3 (.tmp 132) (.tmp 130), none⟩, false)] (fun a' h' => Q .normal a' h') a h) : AI Try.prog (.raw (.region id rg108_5 true)) Q a h :=
  AI_draw [(0, true), (1, true), (2, true), (3, true), (4, true), (5, true), (6, true), (7, true), (8, true), (9, true), (10, true), (11, true), (12, true), (13, true), (14, true), (15, false), (16, true), (17, false)] m (by kernel_rfl) (by kernel_rfl) (by kernel_rfl) H

noncomputable def rg110_0 : Array Oper := rawAt Try.f110 0
noncomputable def rg110_1 : Array Oper := rawAt Try.f110 1
-- NO ORDER
noncomputable def rg110_2 : Array Oper := rawAt Try.f110 2
-- NO ORDER
noncomputable def rg110_3 : Array Oper := rawAt Try.f110 3
/-- slices.partitionEqualOrdered[int] -/
noncomputable def c110 : IC :=
  (.seq
  (.reg [
    ⟨some 8, .assign (.const (.int .i64 0)), none⟩])
  (.seq
  (.raw (.region 1 rg110_0 true))
  (.seq
  (.reg [
    ⟨some 25, .move (.tmp 1), none⟩,
    ⟨some 26, .binOp .add 3 (.tmp 25) (.const (.int .i64 1)) 3, none⟩,
    ⟨some 27, .move (.tmp 2), none⟩,
    ⟨some 28, .binOp .sub 3 (.tmp 27) (.const (.int .i64 1)) 3, none⟩,
    ⟨some 9, .assign (.tmp 26), none⟩,
    ⟨some 10, .assign (.tmp 28), none⟩])
  (.seq
  (.block 0
  (.loop
    (.block 1
    (.seq
    (.block 2
    (.loop
      (.seq
      (.seq
      (.raw (.region 3 rg110_1 true))
      (.cond (.tmp 43)
        .skip
        (.exit 2)))
      (.block 3
      (.reg [
        ⟨some 44, .move (.tmp 9), none⟩,
        ⟨some 45, .binOp .add 3 (.tmp 44) (.const (.int .i64 1)) 3, none⟩,
        ⟨some 9, .assign (.tmp 45), none⟩])))))
    (.seq
    (.block 4
    (.loop
      (.seq
      (.seq
      (.raw (.region 5 rg110_2 true))
      (.cond (.tmp 59)
        .skip
        (.exit 4)))
      (.block 5
      (.reg [
        ⟨some 60, .move (.tmp 10), none⟩,
        ⟨some 61, .binOp .sub 3 (.tmp 60) (.const (.int .i64 1)) 3, none⟩,
        ⟨some 10, .assign (.tmp 61), none⟩])))))
    (.seq
    (.seq
    (.reg [
      ⟨some 62, .move (.tmp 9), none⟩,
      ⟨some 63, .move (.tmp 10), none⟩,
      ⟨some 64, .binOp .gtr 3 (.tmp 62) (.tmp 63) 3, none⟩])
    (.cond (.tmp 64)
      (.exit 0)
      .skip))
    (.seq
    (.raw (.region 8 rg110_3 true))
    (.seq
    (.reg [
      ⟨some 79, .move (.tmp 9), none⟩,
      ⟨some 80, .binOp .add 3 (.tmp 79) (.const (.int .i64 1)) 3, none⟩,
      ⟨some 9, .assign (.tmp 80), none⟩])
    (.reg [
      ⟨some 81, .move (.tmp 10), none⟩,
      ⟨some 82, .binOp .sub 3 (.tmp 81) (.const (.int .i64 1)) 3, none⟩,
      ⟨some 10, .assign (.tmp 82), none⟩])))))))))
  (.seq
  (.reg [
    ⟨some 83, .move (.tmp 9), none⟩,
    ⟨some 8, .assign (.tmp 83), none⟩])
  .ret)))))
theorem hd110 : Try.f110.body.map dec = some c110 := by kernel_rfl
theorem e110 {R : AV → AH → Prop} {h : AH} (x0 x1 x2 x3 : AV) (H : h.wf → AI Try.prog c110 (RetQ Try.prog [.tmp 8] R) [x0, x1, x2, x3, un, un, un, un, un, un, un, un, un, un, un, un, un, un, un, un, un, un, un, un, un, un, un, un, un, un, un, un, un, un, un, un, un, un, un, un, un, un, un, un, un, un, un, un, un, un, un, un, un, un, un, un, un, un, un, un, un, un, un, un, un, un, un, un, un, un, un, un, un, un, un, un, un, un, un, un, un, un, un, un] h) : AC Try.prog 110 [x0, x1, x2, x3] h R :=
  AC_of' (rs := [.tmp 8]) Try.func110 (by kernel_rfl) hd110 Try.ntmps110 rfl H
theorem dz110_0 {h0 : AH} {L : List It} {Q : Exit → List AV → List It → Prop} {a : List AV} {id : Nat} (H : LX Try.prog ⟨[13, 15], []⟩ h0 L L (.c (⟨some 11, .move (.tmp 0), none⟩, .p) <| .c (⟨some 12, .move (.tmp 1), none⟩, .p) <| .c (⟨some 13, .move (.tmp 0), none⟩, .p) <| .c (⟨some 14, .move (.tmp 3), none⟩, .p) <| .c (⟨some 15, .move (.tmp 0), none⟩, .p) <| .c (⟨some 16, .move (.tmp 3), none⟩, .p) <| .c (⟨some 17, .indexAddr 22 (.tmp 15) (.tmp 16), none⟩, .p) <| .c (⟨some 18, .load 3 (.tmp 17), none⟩, .l) <| .c (⟨some 19, .move (.tmp 0), none⟩, .p) <| .c (⟨some 20, .move (.tmp 1), none⟩, .p) <| .c (⟨some 21, .indexAddr 22 (.tmp 19) (.tmp 20), none⟩, .p) <| .c (⟨some 22, .load 3 (.tmp 21), none⟩, .l) <| .c (⟨some 23, .indexAddr 22 (.tmp 11) (.tmp 12), none⟩, .p) <| .c (⟨none, .store 3 (.tmp 23) (.tmp 18), none⟩, .f) <| .c (⟨some 24, .indexAddr 22 (.tmp 13) (.tmp 14), none⟩, .p) <| .c (⟨none, .store 3 (.tmp 24) (.tmp 22), none⟩, .f) <| .n) Q a) : LI Try.prog h0 L (.raw (.region id rg110_0 true)) Q a :=
  LI_draw (.c (0, .p) <| .c (1, .p) <| .c (2, .p) <| .c (3, .p) <| .c (4, .p) <| .c (5, .p) <| .c (6, .p) <| .c (7, .l) <| .c (8, .p) <| .c (9, .p) <| .c (10, .p) <| .c (11, .l) <| .c (12, .p) <| .c (13, .f) <| .c (14, .p) <| .c (15, .f) <| .n) [13, 15] (by kernel_rfl) (by kernel_rfl) (by kernel_rfl) H
theorem dr110_0 (m : Nat) {Q : Exit → List AV → AH → Prop} {a : List AV} {h : AH} {id : Nat} (H : AX Try.prog m h [(⟨some 11, .move (.tmp 0), none⟩, true),
  (⟨some 12, .move (.tmp 1), none⟩, true),
  (⟨some 13, .move (.tmp 0), none⟩, true),
  (⟨some 14, .move (.tmp 3), none⟩, true),
  (⟨some 15, .move (.tmp 0), none⟩, true),
  (⟨some 16, .move (.tmp 3), none⟩, true),
  (⟨some 17, .indexAddr 22 (.tmp 15) (.tmp 16), none⟩, true),
  (⟨some 18, .load 3 (.tmp 17), none⟩, true),
  (⟨some 19, .move (.tmp 0), none⟩, true),
  (⟨some 20, .move (.tmp 1), none⟩, true),
  (⟨some 21, .indexAddr 22 (.tmp 19) (.tmp 20), none⟩, true),
  (⟨some 22, .load 3 (.tmp 21), none⟩, true),
  (⟨some 23, .indexAddr 22 (.tmp 11) (.tmp 12), none⟩, true),
  (⟨none, .store 3 (.tmp 23) (.tmp 18), none⟩, false),
  (⟨some 24, .indexAddr 22 (.tmp 13) (.tmp 14), none⟩, true),
  (⟨none, .store 3 (.tmp 24) (.tmp 22), none⟩, false)] (fun a' h' => Q .normal a' h') a h) : AI Try.prog (.raw (.region id rg110_0 true)) Q a h :=
  AI_draw [(0, true), (1, true), (2, true), (3, true), (4, true), (5, true), (6, true), (7, true), (8, true), (9, true), (10, true), (11, true), (12, true), (13, false), (14, true), (15, false)] m (by kernel_rfl) (by kernel_rfl) (by kernel_rfl) H
theorem dz110_1 {h0 : AH} {L : List It} {Q : Exit → List AV → List It → Prop} {a : List AV} {id : Nat} (H : LX Try.prog ⟨[], []⟩ h0 L L (.c (⟨some 29, .move (.tmp 9), none⟩, .p) <| .c (⟨some 30, .move (.tmp 10), none⟩, .p) <| .c (⟨some 31, .binOp .leq 3 (.tmp 29) (.tmp 30) 3, none⟩, .p) <| .c (⟨some 32, .move (.tmp 31), none⟩, .p) <| .c (⟨some 33, .move (.tmp 0), some (32, true)⟩, .p) <| .c (⟨some 34, .move (.tmp 1), some (32, true)⟩, .p) <| .c (⟨some 35, .indexAddr 22 (.tmp 33) (.tmp 34), some (32, true)⟩, .p) <| .c (⟨some 36, .load 3 (.tmp 35), some (32, true)⟩, .l) <| .c (⟨some 37, .move (.tmp 0), some (32, true)⟩, .p) <| .c (⟨some 38, .move (.tmp 9), some (32, true)⟩, .p) <| .c (⟨some 39, .indexAddr 22 (.tmp 37) (.tmp 38), some (32, true)⟩, .p) <| .c (⟨some 40, .load 3 (.tmp 39), some (32, true)⟩, .l) <| .c (⟨some 41, .call { callee := .value (.func 109), args := #[.tmp 36, .tmp 40], argTypes := #[3, 3] }, some (32, true)⟩, .e) <| .c (⟨some 42, .unOp .not 4 (.tmp 41), some (32, true)⟩, .p) <| .c (⟨some 43, .pick (.tmp 32) (.tmp 42) (.const (.bool false)), none⟩, .p) <| .n) Q a) : LI Try.prog h0 L (.raw (.region id rg110_1 true)) Q a :=
  LI_draw (.c (0, .p) <| .c (1, .p) <| .c (2, .p) <| .c (3, .p) <| .c (4, .p) <| .c (5, .p) <| .c (6, .p) <| .c (7, .l) <| .c (8, .p) <| .c (9, .p) <| .c (10, .p) <| .c (11, .l) <| .c (12, .e) <| .c (13, .p) <| .c (14, .p) <| .n) [] (by kernel_rfl) (by kernel_rfl) (by kernel_rfl) H
theorem dy110_1 {h0 : AH} {L : List It} {Q : Exit → List AV → List It → Prop} {a : List AV} {id : Nat} (H : LX Try.prog ⟨[12], []⟩ h0 L L (.c (⟨some 29, .move (.tmp 9), none⟩, .p) <| .c (⟨some 30, .move (.tmp 10), none⟩, .p) <| .c (⟨some 31, .binOp .leq 3 (.tmp 29) (.tmp 30) 3, none⟩, .p) <| .c (⟨some 32, .move (.tmp 31), none⟩, .p) <| .c (⟨some 33, .move (.tmp 0), some (32, true)⟩, .p) <| .c (⟨some 34, .move (.tmp 1), some (32, true)⟩, .p) <| .c (⟨some 35, .indexAddr 22 (.tmp 33) (.tmp 34), some (32, true)⟩, .p) <| .c (⟨some 36, .load 3 (.tmp 35), some (32, true)⟩, .l) <| .c (⟨some 37, .move (.tmp 0), some (32, true)⟩, .p) <| .c (⟨some 38, .move (.tmp 9), some (32, true)⟩, .p) <| .c (⟨some 39, .indexAddr 22 (.tmp 37) (.tmp 38), some (32, true)⟩, .p) <| .c (⟨some 40, .load 3 (.tmp 39), some (32, true)⟩, .l) <| .c (⟨some 41, .call { callee := .value (.func 109), args := #[.tmp 36, .tmp 40], argTypes := #[3, 3] }, some (32, true)⟩, .f) <| .c (⟨some 42, .unOp .not 4 (.tmp 41), some (32, true)⟩, .p) <| .c (⟨some 43, .pick (.tmp 32) (.tmp 42) (.const (.bool false)), none⟩, .p) <| .n) Q a) : LI Try.prog h0 L (.raw (.region id rg110_1 true)) Q a :=
  LI_draw (.c (0, .p) <| .c (1, .p) <| .c (2, .p) <| .c (3, .p) <| .c (4, .p) <| .c (5, .p) <| .c (6, .p) <| .c (7, .l) <| .c (8, .p) <| .c (9, .p) <| .c (10, .p) <| .c (11, .l) <| .c (12, .f) <| .c (13, .p) <| .c (14, .p) <| .n) [12] (by kernel_rfl) (by kernel_rfl) (by kernel_rfl) H
theorem dz110_2 {h0 : AH} {L : List It} {Q : Exit → List AV → List It → Prop} {a : List AV} {id : Nat} (H : LX Try.prog ⟨[], []⟩ h0 L L (.c (⟨some 46, .move (.tmp 9), none⟩, .p) <| .c (⟨some 47, .move (.tmp 10), none⟩, .p) <| .c (⟨some 48, .binOp .leq 3 (.tmp 46) (.tmp 47) 3, none⟩, .p) <| .c (⟨some 49, .move (.tmp 48), none⟩, .p) <| .c (⟨some 50, .move (.tmp 0), some (49, true)⟩, .p) <| .c (⟨some 51, .move (.tmp 1), some (49, true)⟩, .p) <| .c (⟨some 52, .indexAddr 22 (.tmp 50) (.tmp 51), some (49, true)⟩, .p) <| .c (⟨some 53, .load 3 (.tmp 52), some (49, true)⟩, .l) <| .c (⟨some 54, .move (.tmp 0), some (49, true)⟩, .p) <| .c (⟨some 55, .move (.tmp 10), some (49, true)⟩, .p) <| .c (⟨some 56, .indexAddr 22 (.tmp 54) (.tmp 55), some (49, true)⟩, .p) <| .c (⟨some 57, .load 3 (.tmp 56), some (49, true)⟩, .l) <| .c (⟨some 58, .call { callee := .value (.func 109), args := #[.tmp 53, .tmp 57], argTypes := #[3, 3] }, some (49, true)⟩, .e) <| .c (⟨some 59, .pick (.tmp 49) (.tmp 58) (.const (.bool false)), none⟩, .p) <| .n) Q a) : LI Try.prog h0 L (.raw (.region id rg110_2 true)) Q a :=
  LI_draw (.c (0, .p) <| .c (1, .p) <| .c (2, .p) <| .c (3, .p) <| .c (4, .p) <| .c (5, .p) <| .c (6, .p) <| .c (7, .l) <| .c (8, .p) <| .c (9, .p) <| .c (10, .p) <| .c (11, .l) <| .c (12, .e) <| .c (13, .p) <| .n) [] (by kernel_rfl) (by kernel_rfl) (by kernel_rfl) H
theorem dy110_2 {h0 : AH} {L : List It} {Q : Exit → List AV → List It → Prop} {a : List AV} {id : Nat} (H : LX Try.prog ⟨[12], []⟩ h0 L L (.c (⟨some 46, .move (.tmp 9), none⟩, .p) <| .c (⟨some 47, .move (.tmp 10), none⟩, .p) <| .c (⟨some 48, .binOp .leq 3 (.tmp 46) (.tmp 47) 3, none⟩, .p) <| .c (⟨some 49, .move (.tmp 48), none⟩, .p) <| .c (⟨some 50, .move (.tmp 0), some (49, true)⟩, .p) <| .c (⟨some 51, .move (.tmp 1), some (49, true)⟩, .p) <| .c (⟨some 52, .indexAddr 22 (.tmp 50) (.tmp 51), some (49, true)⟩, .p) <| .c (⟨some 53, .load 3 (.tmp 52), some (49, true)⟩, .l) <| .c (⟨some 54, .move (.tmp 0), some (49, true)⟩, .p) <| .c (⟨some 55, .move (.tmp 10), some (49, true)⟩, .p) <| .c (⟨some 56, .indexAddr 22 (.tmp 54) (.tmp 55), some (49, true)⟩, .p) <| .c (⟨some 57, .load 3 (.tmp 56), some (49, true)⟩, .l) <| .c (⟨some 58, .call { callee := .value (.func 109), args := #[.tmp 53, .tmp 57], argTypes := #[3, 3] }, some (49, true)⟩, .f) <| .c (⟨some 59, .pick (.tmp 49) (.tmp 58) (.const (.bool false)), none⟩, .p) <| .n) Q a) : LI Try.prog h0 L (.raw (.region id rg110_2 true)) Q a :=
  LI_draw (.c (0, .p) <| .c (1, .p) <| .c (2, .p) <| .c (3, .p) <| .c (4, .p) <| .c (5, .p) <| .c (6, .p) <| .c (7, .l) <| .c (8, .p) <| .c (9, .p) <| .c (10, .p) <| .c (11, .l) <| .c (12, .f) <| .c (13, .p) <| .n) [12] (by kernel_rfl) (by kernel_rfl) (by kernel_rfl) H
theorem dz110_3 {h0 : AH} {L : List It} {Q : Exit → List AV → List It → Prop} {a : List AV} {id : Nat} (H : LX Try.prog ⟨[13, 15], []⟩ h0 L L (.c (⟨some 65, .move (.tmp 0), none⟩, .p) <| .c (⟨some 66, .move (.tmp 9), none⟩, .p) <| .c (⟨some 67, .move (.tmp 0), none⟩, .p) <| .c (⟨some 68, .move (.tmp 10), none⟩, .p) <| .c (⟨some 69, .move (.tmp 0), none⟩, .p) <| .c (⟨some 70, .move (.tmp 10), none⟩, .p) <| .c (⟨some 71, .indexAddr 22 (.tmp 69) (.tmp 70), none⟩, .p) <| .c (⟨some 72, .load 3 (.tmp 71), none⟩, .l) <| .c (⟨some 73, .move (.tmp 0), none⟩, .p) <| .c (⟨some 74, .move (.tmp 9), none⟩, .p) <| .c (⟨some 75, .indexAddr 22 (.tmp 73) (.tmp 74), none⟩, .p) <| .c (⟨some 76, .load 3 (.tmp 75), none⟩, .l) <| .c (⟨some 77, .indexAddr 22 (.tmp 65) (.tmp 66), none⟩, .p) <| .c (⟨none, .store 3 (.tmp 77) (.tmp 72), none⟩, .f) <| .c (⟨some 78, .indexAddr 22 (.tmp 67) (.tmp 68), none⟩, .p) <| .c (⟨none, .store 3 (.tmp 78) (.tmp 76), none⟩, .f) <| .n) Q a) : LI Try.prog h0 L (.raw (.region id rg110_3 true)) Q a :=
  LI_draw (.c (0, .p) <| .c (1, .p) <| .c (2, .p) <| .c (3, .p) <| .c (4, .p) <| .c (5, .p) <| .c (6, .p) <| .c (7, .l) <| .c (8, .p) <| .c (9, .p) <| .c (10, .p) <| .c (11, .l) <| .c (12, .p) <| .c (13, .f) <| .c (14, .p) <| .c (15, .f) <| .n) [13, 15] (by kernel_rfl) (by kernel_rfl) (by kernel_rfl) H
theorem dr110_3 (m : Nat) {Q : Exit → List AV → AH → Prop} {a : List AV} {h : AH} {id : Nat} (H : AX Try.prog m h [(⟨some 65, .move (.tmp 0), none⟩, true),
  (⟨some 66, .move (.tmp 9), none⟩, true),
  (⟨some 67, .move (.tmp 0), none⟩, true),
  (⟨some 68, .move (.tmp 10), none⟩, true),
  (⟨some 69, .move (.tmp 0), none⟩, true),
  (⟨some 70, .move (.tmp 10), none⟩, true),
  (⟨some 71, .indexAddr 22 (.tmp 69) (.tmp 70), none⟩, true),
  (⟨some 72, .load 3 (.tmp 71), none⟩, true),
  (⟨some 73, .move (.tmp 0), none⟩, true),
  (⟨some 74, .move (.tmp 9), none⟩, true),
  (⟨some 75, .indexAddr 22 (.tmp 73) (.tmp 74), none⟩, true),
  (⟨some 76, .load 3 (.tmp 75), none⟩, true),
  (⟨some 77, .indexAddr 22 (.tmp 65) (.tmp 66), none⟩, true),
  (⟨none, .store 3 (.tmp 77) (.tmp 72), none⟩, false),
  (⟨some 78, .indexAddr 22 (.tmp 67) (.tmp 68), none⟩, true),
  (⟨none, .store 3 (.tmp 78) (.tmp 76), none⟩, false)] (fun a' h' => Q .normal a' h') a h) : AI Try.prog (.raw (.region id rg110_3 true)) Q a h :=
  AI_draw [(0, true), (1, true), (2, true), (3, true), (4, true), (5, true), (6, true), (7, true), (8, true), (9, true), (10, true), (11, true), (12, true), (13, false), (14, true), (15, false)] m (by kernel_rfl) (by kernel_rfl) (by kernel_rfl) H

noncomputable def rg111_0 : Array Oper := rawAt Try.f111 0
noncomputable def rg111_1 : Array Oper := rawAt Try.f111 1
-- NO ORDER
noncomputable def rg111_2 : Array Oper := rawAt Try.f111 2
-- NO ORDER
noncomputable def rg111_3 : Array Oper := rawAt Try.f111 3
noncomputable def rg111_4 : Array Oper := rawAt Try.f111 4
noncomputable def rg111_5 : Array Oper := rawAt Try.f111 5
-- NO ORDER
noncomputable def rg111_6 : Array Oper := rawAt Try.f111 6
-- NO ORDER
noncomputable def rg111_7 : Array Oper := rawAt Try.f111 7
noncomputable def rg111_8 : Array Oper := rawAt Try.f111 8
/-- slices.partitionOrdered[int] -/
noncomputable def c111 : IC :=
  (.seq
  (.reg [
    ⟨some 8, .assign (.const (.int .i64 0)), none⟩,
    ⟨some 9, .assign (.const (.bool false)), none⟩])
  (.seq
  (.raw (.region 1 rg111_0 true))
  (.seq
  (.reg [
    ⟨some 26, .move (.tmp 1), none⟩,
    ⟨some 27, .binOp .add 3 (.tmp 26) (.const (.int .i64 1)) 3, none⟩,
    ⟨some 28, .move (.tmp 2), none⟩,
    ⟨some 29, .binOp .sub 3 (.tmp 28) (.const (.int .i64 1)) 3, none⟩,
    ⟨some 10, .assign (.tmp 27), none⟩,
    ⟨some 11, .assign (.tmp 29), none⟩])
  (.seq
  (.block 0
  (.loop
    (.seq
    (.seq
    (.raw (.region 3 rg111_1 true))
    (.cond (.tmp 43)
      .skip
      (.exit 0)))
    (.block 1
    (.reg [
      ⟨some 44, .move (.tmp 10), none⟩,
      ⟨some 45, .binOp .add 3 (.tmp 44) (.const (.int .i64 1)) 3, none⟩,
      ⟨some 10, .assign (.tmp 45), none⟩])))))
  (.seq
  (.block 2
  (.loop
    (.seq
    (.seq
    (.raw (.region 5 rg111_2 true))
    (.cond (.tmp 60)
      .skip
      (.exit 2)))
    (.block 3
    (.reg [
      ⟨some 61, .move (.tmp 11), none⟩,
      ⟨some 62, .binOp .sub 3 (.tmp 61) (.const (.int .i64 1)) 3, none⟩,
      ⟨some 11, .assign (.tmp 62), none⟩])))))
  (.seq
  (.seq
  (.reg [
    ⟨some 63, .move (.tmp 10), none⟩,
    ⟨some 64, .move (.tmp 11), none⟩,
    ⟨some 65, .binOp .gtr 3 (.tmp 63) (.tmp 64) 3, none⟩])
  (.cond (.tmp 65)
    (.seq
    (.raw (.region 8 rg111_3 true))
    (.seq
    (.reg [
      ⟨some 80, .move (.tmp 11), none⟩,
      ⟨some 8, .assign (.tmp 80), none⟩,
      ⟨some 9, .assign (.const (.bool true)), none⟩])
    .ret))
    .skip))
  (.seq
  (.raw (.region 10 rg111_4 true))
  (.seq
  (.reg [
    ⟨some 95, .move (.tmp 10), none⟩,
    ⟨some 96, .binOp .add 3 (.tmp 95) (.const (.int .i64 1)) 3, none⟩,
    ⟨some 10, .assign (.tmp 96), none⟩])
  (.seq
  (.reg [
    ⟨some 97, .move (.tmp 11), none⟩,
    ⟨some 98, .binOp .sub 3 (.tmp 97) (.const (.int .i64 1)) 3, none⟩,
    ⟨some 11, .assign (.tmp 98), none⟩])
  (.seq
  (.block 4
  (.loop
    (.block 5
    (.seq
    (.block 6
    (.loop
      (.seq
      (.seq
      (.raw (.region 13 rg111_5 true))
      (.cond (.tmp 112)
        .skip
        (.exit 6)))
      (.block 7
      (.reg [
        ⟨some 113, .move (.tmp 10), none⟩,
        ⟨some 114, .binOp .add 3 (.tmp 113) (.const (.int .i64 1)) 3, none⟩,
        ⟨some 10, .assign (.tmp 114), none⟩])))))
    (.seq
    (.block 8
    (.loop
      (.seq
      (.seq
      (.raw (.region 15 rg111_6 true))
      (.cond (.tmp 129)
        .skip
        (.exit 8)))
      (.block 9
      (.reg [
        ⟨some 130, .move (.tmp 11), none⟩,
        ⟨some 131, .binOp .sub 3 (.tmp 130) (.const (.int .i64 1)) 3, none⟩,
        ⟨some 11, .assign (.tmp 131), none⟩])))))
    (.seq
    (.seq
    (.reg [
      ⟨some 132, .move (.tmp 10), none⟩,
      ⟨some 133, .move (.tmp 11), none⟩,
      ⟨some 134, .binOp .gtr 3 (.tmp 132) (.tmp 133) 3, none⟩])
    (.cond (.tmp 134)
      (.exit 4)
      .skip))
    (.seq
    (.raw (.region 18 rg111_7 true))
    (.seq
    (.reg [
      ⟨some 149, .move (.tmp 10), none⟩,
      ⟨some 150, .binOp .add 3 (.tmp 149) (.const (.int .i64 1)) 3, none⟩,
      ⟨some 10, .assign (.tmp 150), none⟩])
    (.reg [
      ⟨some 151, .move (.tmp 11), none⟩,
      ⟨some 152, .binOp .sub 3 (.tmp 151) (.const (.int .i64 1)) 3, none⟩,
      ⟨some 11, .assign (.tmp 152), none⟩])))))))))
  (.seq
  (.raw (.region 21 rg111_8 true))
  (.seq
  (.reg [
    ⟨some 167, .move (.tmp 11), none⟩,
    ⟨some 8, .assign (.tmp 167), none⟩,
    ⟨some 9, .assign (.const (.bool false)), none⟩])
  .ret))))))))))))
theorem hd111 : Try.f111.body.map dec = some c111 := by kernel_rfl
theorem e111 {R : AV → AH → Prop} {h : AH} (x0 x1 x2 x3 : AV) (H : h.wf → AI Try.prog c111 (RetQ Try.prog [.tmp 8, .tmp 9] R) [x0, x1, x2, x3, un, un, un, un, un, un, un, un, un, un, un, un, un, un, un, un, un, un, un, un, un, un, un, un, un, un, un, un, un, un, un, un, un, un, un, un, un, un, un, un, un, un, un, un, un, un, un, un, un, un, un, un, un, un, un, un, un, un, un, un, un, un, un, un, un, un, un, un, un, un, un, un, un, un, un, un, un, un, un, un, un, un, un, un, un, un, un, un, un, un, un, un, un, un, un, un, un, un, un, un, un, un, un, un, un, un, un, un, un, un, un, un, un, un, un, un, un, un, un, un, un, un, un, un, un, un, un, un, un, un, un, un, un, un, un, un, un, un, un, un, un, un, un, un, un, un, un, un, un, un, un, un, un, un, un, un, un, un, un, un, un, un, un, un] h) : AC Try.prog 111 [x0, x1, x2, x3] h R :=
  AC_of' (rs := [.tmp 8, .tmp 9]) Try.func111 (by kernel_rfl) hd111 Try.ntmps111 rfl H
theorem dz111_0 {h0 : AH} {L : List It} {Q : Exit → List AV → List It → Prop} {a : List AV} {id : Nat} (H : LX Try.prog ⟨[13, 15], []⟩ h0 L L (.c (⟨some 12, .move (.tmp 0), none⟩, .p) <| .c (⟨some 13, .move (.tmp 1), none⟩, .p) <| .c (⟨some 14, .move (.tmp 0), none⟩, .p) <| .c (⟨some 15, .move (.tmp 3), none⟩, .p) <| .c (⟨some 16, .move (.tmp 0), none⟩, .p) <| .c (⟨some 17, .move (.tmp 3), none⟩, .p) <| .c (⟨some 18, .indexAddr 22 (.tmp 16) (.tmp 17), none⟩, .p) <| .c (⟨some 19, .load 3 (.tmp 18), none⟩, .l) <| .c (⟨some 20, .move (.tmp 0), none⟩, .p) <| .c (⟨some 21, .move (.tmp 1), none⟩, .p) <| .c (⟨some 22, .indexAddr 22 (.tmp 20) (.tmp 21), none⟩, .p) <| .c (⟨some 23, .load 3 (.tmp 22), none⟩, .l) <| .c (⟨some 24, .indexAddr 22 (.tmp 12) (.tmp 13), none⟩, .p) <| .c (⟨none, .store 3 (.tmp 24) (.tmp 19), none⟩, .f) <| .c (⟨some 25, .indexAddr 22 (.tmp 14) (.tmp 15), none⟩, .p) <| .c (⟨none, .store 3 (.tmp 25) (.tmp 23), none⟩, .f) <| .n) Q a) : LI Try.prog h0 L (.raw (.region id rg111_0 true)) Q a :=
  LI_draw (.c (0, .p) <| .c (1, .p) <| .c (2, .p) <| .c (3, .p) <| .c (4, .p) <| .c (5, .p) <| .c (6, .p) <| .c (7, .l) <| .c (8, .p) <| .c (9, .p) <| .c (10, .p) <| .c (11, .l) <| .c (12, .p) <| .c (13, .f) <| .c (14, .p) <| .c (15, .f) <| .n) [13, 15] (by kernel_rfl) (by kernel_rfl) (by kernel_rfl) H
theorem dr111_0 (m : Nat) {Q : Exit → List AV → AH → Prop} {a : List AV} {h : AH} {id : Nat} (H : AX Try.prog m h [(⟨some 12, .move (.tmp 0), none⟩, true),
  (⟨some 13, .move (.tmp 1), none⟩, true),
  (⟨some 14, .move (.tmp 0), none⟩, true),
  (⟨some 15, .move (.tmp 3), none⟩, true),
  (⟨some 16, .move (.tmp 0), none⟩, true),
  (⟨some 17, .move (.tmp 3), none⟩, true),
  (⟨some 18, .indexAddr 22 (.tmp 16) (.tmp 17), none⟩, true),
  (⟨some 19, .load 3 (.tmp 18), none⟩, true),
  (⟨some 20, .move (.tmp 0), none⟩, true),
  (⟨some 21, .move (.tmp 1), none⟩, true),
  (⟨some 22, .indexAddr 22 (.tmp 20) (.tmp 21), none⟩, true),
  (⟨some 23, .load 3 (.tmp 22), none⟩, true),
  (⟨some 24, .indexAddr 22 (.tmp 12) (.tmp 13), none⟩, true),
  (⟨none, .store 3 (.tmp 24) (.tmp 19), none⟩, false),
  (⟨some 25, .indexAddr 22 (.tmp 14) (.tmp 15), none⟩, true),
  (⟨none, .store 3 (.tmp 25) (.tmp 23), none⟩, false)] (fun a' h' => Q .normal a' h') a h) : AI Try.prog (.raw (.region id rg111_0 true)) Q a h :=
  AI_draw [(0, true), (1, true), (2, true), (3, true), (4, true), (5, true), (6, true), (7, true), (8, true), (9, true), (10, true), (11, true), (12, true), (13, false), (14, true), (15, false)] m (by kernel_rfl) (by kernel_rfl) (by kernel_rfl) H
theorem dz111_1 {h0 : AH} {L : List It} {Q : Exit → List AV → List It → Prop} {a : List AV} {id : Nat} (H : LX Try.prog ⟨[], []⟩ h0 L L (.c (⟨some 30, .move (.tmp 10), none⟩, .p) <| .c (⟨some 31, .move (.tmp 11), none⟩, .p) <| .c (⟨some 32, .binOp .leq 3 (.tmp 30) (.tmp 31) 3, none⟩, .p) <| .c (⟨some 33, .move (.tmp 32), none⟩, .p) <| .c (⟨some 34, .move (.tmp 0), some (33, true)⟩, .p) <| .c (⟨some 35, .move (.tmp 10), some (33, true)⟩, .p) <| .c (⟨some 36, .indexAddr 22 (.tmp 34) (.tmp 35), some (33, true)⟩, .p) <| .c (⟨some 37, .load 3 (.tmp 36), some (33, true)⟩, .l) <| .c (⟨some 38, .move (.tmp 0), some (33, true)⟩, .p) <| .c (⟨some 39, .move (.tmp 1), some (33, true)⟩, .p) <| .c (⟨some 40, .indexAddr 22 (.tmp 38) (.tmp 39), some (33, true)⟩, .p) <| .c (⟨some 41, .load 3 (.tmp 40), some (33, true)⟩, .l) <| .c (⟨some 42, .call { callee := .value (.func 109), args := #[.tmp 37, .tmp 41], argTypes := #[3, 3] }, some (33, true)⟩, .e) <| .c (⟨some 43, .pick (.tmp 33) (.tmp 42) (.const (.bool false)), none⟩, .p) <| .n) Q a) : LI Try.prog h0 L (.raw (.region id rg111_1 true)) Q a :=
  LI_draw (.c (0, .p) <| .c (1, .p) <| .c (2, .p) <| .c (3, .p) <| .c (4, .p) <| .c (5, .p) <| .c (6, .p) <| .c (7, .l) <| .c (8, .p) <| .c (9, .p) <| .c (10, .p) <| .c (11, .l) <| .c (12, .e) <| .c (13, .p) <| .n) [] (by kernel_rfl) (by kernel_rfl) (by kernel_rfl) H
theorem dy111_1 {h0 : AH} {L : List It} {Q : Exit → List AV → List It → Prop} {a : List AV} {id : Nat} (H : LX Try.prog ⟨[12], []⟩ h0 L L (.c (⟨some 30, .move (.tmp 10), none⟩, .p) <| .c (⟨some 31, .move (.tmp 11), none⟩, .p) <| .c (⟨some 32, .binOp .leq 3 (.tmp 30) (.tmp 31) 3, none⟩, .p) <| .c (⟨some 33, .move (.tmp 32), none⟩, .p) <| .c (⟨some 34, .move (.tmp 0), some (33, true)⟩, .p) <| .c (⟨some 35, .move (.tmp 10), some (33, true)⟩, .p) <| .c (⟨some 36, .indexAddr 22 (.tmp 34) (.tmp 35), some (33, true)⟩, .p) <| .c (⟨some 37, .load 3 (.tmp 36), some (33, true)⟩, .l) <| .c (⟨some 38, .move (.tmp 0), some (33, true)⟩, .p) <| .c (⟨some 39, .move (.tmp 1), some (33, true)⟩, .p) <| .c (⟨some 40, .indexAddr 22 (.tmp 38) (.tmp 39), some (33, true)⟩, .p) <| .c (⟨some 41, .load 3 (.tmp 40), some (33, true)⟩, .l) <| .c (⟨some 42, .call { callee := .value (.func 109), args := #[.tmp 37, .tmp 41], argTypes := #[3, 3] }, some (33, true)⟩, .f) <| .c (⟨some 43, .pick (.tmp 33) (.tmp 42) (.const (.bool false)), none⟩, .p) <| .n) Q a) : LI Try.prog h0 L (.raw (.region id rg111_1 true)) Q a :=
  LI_draw (.c (0, .p) <| .c (1, .p) <| .c (2, .p) <| .c (3, .p) <| .c (4, .p) <| .c (5, .p) <| .c (6, .p) <| .c (7, .l) <| .c (8, .p) <| .c (9, .p) <| .c (10, .p) <| .c (11, .l) <| .c (12, .f) <| .c (13, .p) <| .n) [12] (by kernel_rfl) (by kernel_rfl) (by kernel_rfl) H
theorem dz111_2 {h0 : AH} {L : List It} {Q : Exit → List AV → List It → Prop} {a : List AV} {id : Nat} (H : LX Try.prog ⟨[], []⟩ h0 L L (.c (⟨some 46, .move (.tmp 10), none⟩, .p) <| .c (⟨some 47, .move (.tmp 11), none⟩, .p) <| .c (⟨some 48, .binOp .leq 3 (.tmp 46) (.tmp 47) 3, none⟩, .p) <| .c (⟨some 49, .move (.tmp 48), none⟩, .p) <| .c (⟨some 50, .move (.tmp 0), some (49, true)⟩, .p) <| .c (⟨some 51, .move (.tmp 11), some (49, true)⟩, .p) <| .c (⟨some 52, .indexAddr 22 (.tmp 50) (.tmp 51), some (49, true)⟩, .p) <| .c (⟨some 53, .load 3 (.tmp 52), some (49, true)⟩, .l) <| .c (⟨some 54, .move (.tmp 0), some (49, true)⟩, .p) <| .c (⟨some 55, .move (.tmp 1), some (49, true)⟩, .p) <| .c (⟨some 56, .indexAddr 22 (.tmp 54) (.tmp 55), some (49, true)⟩, .p) <| .c (⟨some 57, .load 3 (.tmp 56), some (49, true)⟩, .l) <| .c (⟨some 58, .call { callee := .value (.func 109), args := #[.tmp 53, .tmp 57], argTypes := #[3, 3] }, some (49, true)⟩, .e) <| .c (⟨some 59, .unOp .not 4 (.tmp 58), some (49, true)⟩, .p) <| .c (⟨some 60, .pick (.tmp 49) (.tmp 59) (.const (.bool false)), none⟩, .p) <| .n) Q a) : LI Try.prog h0 L (.raw (.region id rg111_2 true)) Q a :=
  LI_draw (.c (0, .p) <| .c (1, .p) <| .c (2, .p) <| .c (3, .p) <| .c (4, .p) <| .c (5, .p) <| .c (6, .p) <| .c (7, .l) <| .c (8, .p) <| .c (9, .p) <| .c (10, .p) <| .c (11, .l) <| .c (12, .e) <| .c (13, .p) <| .c (14, .p) <| .n) [] (by kernel_rfl) (by kernel_rfl) (by kernel_rfl) H
theorem dy111_2 {h0 : AH} {L : List It} {Q : Exit → List AV → List It → Prop} {a : List AV} {id : Nat} (H : LX Try.prog ⟨[12], []⟩ h0 L L (.c (⟨some 46, .move (.tmp 10), none⟩, .p) <| .c (⟨some 47, .move (.tmp 11), none⟩, .p) <| .c (⟨some 48, .binOp .leq 3 (.tmp 46) (.tmp 47) 3, none⟩, .p) <| .c (⟨some 49, .move (.tmp 48), none⟩, .p) <| .c (⟨some 50, .move (.tmp 0), some (49, true)⟩, .p) <| .c (⟨some 51, .move (.tmp 11), some (49, true)⟩, .p) <| .c (⟨some 52, .indexAddr 22 (.tmp 50) (.tmp 51), some (49, true)⟩, .p) <| .c (⟨some 53, .load 3 (.tmp 52), some (49, true)⟩, .l) <| .c (⟨some 54, .move (.tmp 0), some (49, true)⟩, .p) <| .c (⟨some 55, .move (.tmp 1), some (49, true)⟩, .p) <| .c (⟨some 56, .indexAddr 22 (.tmp 54) (.tmp 55), some (49, true)⟩, .p) <| .c (⟨some 57, .load 3 (.tmp 56), some (49, true)⟩, .l) <| .c (⟨some 58, .call { callee := .value (.func 109), args := #[.tmp 53, .tmp 57], argTypes := #[3, 3] }, some (49, true)⟩, .f) <| .c (⟨some 59, .unOp .not 4 (.tmp 58), some (49, true)⟩, .p) <| .c (⟨some 60, .pick (.tmp 49) (.tmp 59) (.const (.bool false)), none⟩, .p) <| .n) Q a) : LI Try.prog h0 L (.raw (.region id rg111_2 true)) Q a :=
  LI_draw (.c (0, .p) <| .c (1, .p) <| .c (2, .p) <| .c (3, .p) <| .c (4, .p) <| .c (5, .p) <| .c (6, .p) <| .c (7, .l) <| .c (8, .p) <| .c (9, .p) <| .c (10, .p) <| .c (11, .l) <| .c (12, .f) <| .c (13, .p) <| .c (14, .p) <| .n) [12] (by kernel_rfl) (by kernel_rfl) (by kernel_rfl) H
theorem dz111_3 {h0 : AH} {L : List It} {Q : Exit → List AV → List It → Prop} {a : List AV} {id : Nat} (H : LX Try.prog ⟨[13, 15], []⟩ h0 L L (.c (⟨some 66, .move (.tmp 0), none⟩, .p) <| .c (⟨some 67, .move (.tmp 11), none⟩, .p) <| .c (⟨some 68, .move (.tmp 0), none⟩, .p) <| .c (⟨some 69, .move (.tmp 1), none⟩, .p) <| .c (⟨some 70, .move (.tmp 0), none⟩, .p) <| .c (⟨some 71, .move (.tmp 1), none⟩, .p) <| .c (⟨some 72, .indexAddr 22 (.tmp 70) (.tmp 71), none⟩, .p) <| .c (⟨some 73, .load 3 (.tmp 72), none⟩, .l) <| .c (⟨some 74, .move (.tmp 0), none⟩, .p) <| .c (⟨some 75, .move (.tmp 11), none⟩, .p) <| .c (⟨some 76, .indexAddr 22 (.tmp 74) (.tmp 75), none⟩, .p) <| .c (⟨some 77, .load 3 (.tmp 76), none⟩, .l) <| .c (⟨some 78, .indexAddr 22 (.tmp 66) (.tmp 67), none⟩, .p) <| .c (⟨none, .store 3 (.tmp 78) (.tmp 73), none⟩, .f) <| .c (⟨some 79, .indexAddr 22 (.tmp 68) (.tmp 69), none⟩, .p) <| .c (⟨none, .store 3 (.tmp 79) (.tmp 77), none⟩, .f) <| .n) Q a) : LI Try.prog h0 L (.raw (.region id rg111_3 true)) Q a :=
  LI_draw (.c (0, .p) <| .c (1, .p) <| .c (2, .p) <| .c (3, .p) <| .c (4, .p) <| .c (5, .p) <| .c (6, .p) <| .c (7, .l) <| .c (8, .p) <| .c (9, .p) <| .c (10, .p) <| .c (11, .l) <| .c (12, .p) <| .c (13, .f) <| .c (14, .p) <| .c (15, .f) <| .n) [13, 15] (by kernel_rfl) (by kernel_rfl) (by kernel_rfl) H
theorem dr111_3 (m : Nat) {Q : Exit → List AV → AH → Prop} {a : List AV} {h : AH} {id : Nat} (H : AX Try.prog m h [(⟨some 66, .move (.tmp 0), none⟩, true),
  (⟨some 67, .move (.tmp 11), none⟩, true),
  (⟨some 68, .move (.tmp 0), none⟩, true),
  (⟨some 69, .move (.tmp 1), none⟩, true),
  (⟨some 70, .move (.tmp 0), none⟩, true),
  (⟨some 71, .move (.tmp 1), none⟩, true),
  (⟨some 72, .indexAddr 22 (.tmp 70) (.tmp 71), none⟩, true),
  (⟨some 73, .load 3 (.tmp 72), none⟩, true),
  (⟨some 74, .move (.tmp 0), none⟩, true),
  (⟨some 75, .move (.tmp 11), none⟩, true),
  (⟨some 76, .indexAddr 22 (.tmp 74) (.tmp 75), none⟩, true),
  (⟨some 77, .load 3 (.tmp 76), none⟩, true),
  (⟨some 78, .indexAddr 22 (.tmp 66) (.tmp 67), none⟩, true),
  (⟨none, .store 3 (.tmp 78) (.tmp 73), none⟩, false),
  (⟨some 79, .indexAddr 22 (.tmp 68) (.tmp 69), none⟩, true),
  (⟨none, .store 3 (.tmp 79) (.tmp 77), none⟩, false)] (fun a' h' => Q .normal a' h') a h) : AI Try.prog (.raw (.region id rg111_3 true)) Q a h :=
  AI_draw [(0, true), (1, true), (2, true), (3, true), (4, true), (5, true), (6, true), (7, true), (8, true), (9, true), (10, true), (11, true), (12, true), (13, false), (14, true), (15, false)] m (by kernel_rfl) (by kernel_rfl) (by kernel_rfl) H
theorem dz111_4 {h0 : AH} {L : List It} {Q : Exit → List AV → List It → Prop} {a : List AV} {id : Nat} (H : LX Try.prog ⟨[13, 15], []⟩ h0 L L (.c (⟨some 81, .move (.tmp 0), none⟩, .p) <| .c (⟨some 82, .move (.tmp 10), none⟩, .p) <| .c (⟨some 83, .move (.tmp 0), none⟩, .p) <| .c (⟨some 84, .move (.tmp 11), none⟩, .p) <| .c (⟨some 85, .move (.tmp 0), none⟩, .p) <| .c (⟨some 86, .move (.tmp 11), none⟩, .p) <| .c (⟨some 87, .indexAddr 22 (.tmp 85) (.tmp 86), none⟩, .p) <| .c (⟨some 88, .load 3 (.tmp 87), none⟩, .l) <| .c (⟨some 89, .move (.tmp 0), none⟩, .p) <| .c (⟨some 90, .move (.tmp 10), none⟩, .p) <| .c (⟨some 91, .indexAddr 22 (.tmp 89) (.tmp 90), none⟩, .p) <| .c (⟨some 92, .load 3 (.tmp 91), none⟩, .l) <| .c (⟨some 93, .indexAddr 22 (.tmp 81) (.tmp 82), none⟩, .p) <| .c (⟨none, .store 3 (.tmp 93) (.tmp 88), none⟩, .f) <| .c (⟨some 94, .indexAddr 22 (.tmp 83) (.tmp 84), none⟩, .p) <| .c (⟨none, .store 3 (.tmp 94) (.tmp 92), none⟩, .f) <| .n) Q a) : LI Try.prog h0 L (.raw (.region id rg111_4 true)) Q a :=
  LI_draw (.c (0, .p) <| .c (1, .p) <| .c (2, .p) <| .c (3, .p) <| .c (4, .p) <| .c (5, .p) <| .c (6, .p) <| .c (7, .l) <| .c (8, .p) <| .c (9, .p) <| .c (10, .p) <| .c (11, .l) <| .c (12, .p) <| .c (13, .f) <| .c (14, .p) <| .c (15, .f) <| .n) [13, 15] (by kernel_rfl) (by kernel_rfl) (by kernel_rfl) H
theorem dr111_4 (m : Nat) {Q : Exit → List AV → AH → Prop} {a : List AV} {h : AH} {id : Nat} (H : AX Try.prog m h [(⟨some 81, .move (.tmp 0), none⟩, true),
  (⟨some 82, .move (.tmp 10), none⟩, true),
  (⟨some 83, .move (.tmp 0), none⟩, true),
  (⟨some 84, .move (.tmp 11), none⟩, true),
  (⟨some 85, .move (.tmp 0), none⟩, true),
  (⟨some 86, .move (.tmp 11), none⟩, true),
  (⟨some 87, .indexAddr 22 (.tmp 85) (.tmp 86), none⟩, true),
  (⟨some 88, .load 3 (.tmp 87), none⟩, true),
  (⟨some 89, .move (.tmp 0), none⟩, true),
  (⟨some 90, .move (.tmp 10), none⟩, true),
  (⟨some 91, .indexAddr 22 (.tmp 89) (.tmp 90), none⟩, true),
  (⟨some 92, .load 3 (.tmp 91), none⟩, true),
  (⟨some 93, .indexAddr 22 (.tmp 81) (.tmp 82), none⟩, true),
  (⟨none, .store 3 (.tmp 93) (.tmp 88), none⟩, false),
  (⟨some 94, .indexAddr 22 (.tmp 83) (.tmp 84), none⟩, true),
  (⟨none, .store 3 (.tmp 94) (.tmp 92), none⟩, false)] (fun a' h' => Q .normal a' h') a h) : AI Try.prog (.raw (.region id rg111_4 true)) Q a h :=
  AI_draw [(0, true), (1, true), (2, true), (3, true), (4, true), (5, true), (6, true), (7, true), (8, true), (9, true), (10, true), (11, true), (12, true), (13, false), (14, true), (15, false)] m (by kernel_rfl) (by kernel_rfl) (by kernel_rfl) H
theorem dz111_5 {h0 : AH} {L : List It} {Q : Exit → List AV → List It → Prop} {a : List AV} {id : Nat} (H : LX Try.prog ⟨[], []⟩ h0 L L (.c (⟨some 99, .move (.tmp 10), none⟩, .p) <| .c (⟨some 100, .move (.tmp 11), none⟩, .p) <| .c (⟨some 101, .binOp .leq 3 (.tmp 99) (.tmp 100) 3, none⟩, .p) <| .c (⟨some 102, .move (.tmp 101), none⟩, .p) <| .c (⟨some 103, .move (.tmp 0), some (102, true)⟩, .p) <| .c (⟨some 104, .move (.tmp 10), some (102, true)⟩, .p) <| .c (⟨some 105, .indexAddr 22 (.tmp 103) (.tmp 104), some (102, true)⟩, .p) <| .c (⟨some 106, .load 3 (.tmp 105), some (102, true)⟩, .l) <| .c (⟨some 107, .move (.tmp 0), some (102, true)⟩, .p) <| .c (⟨some 108, .move (.tmp 1), some (102, true)⟩, .p) <| .c (⟨some 109, .indexAddr 22 (.tmp 107) (.tmp 108), some (102, true)⟩, .p) <| .c (⟨some 110, .load 3 (.tmp 109), some (102, true)⟩, .l) <| .c (⟨some 111, .call { callee := .value (.func 109), args := #[.tmp 106, .tmp 110], argTypes := #[3, 3] }, some (102, true)⟩, .e) <| .c (⟨some 112, .pick (.tmp 102) (.tmp 111) (.const (.bool false)), none⟩, .p) <| .n) Q a) : LI Try.prog h0 L (.raw (.region id rg111_5 true)) Q a :=
  LI_draw (.c (0, .p) <| .c (1, .p) <| .c (2, .p) <| .c (3, .p) <| .c (4, .p) <| .c (5, .p) <| .c (6, .p) <| .c (7, .l) <| .c (8, .p) <| .c (9, .p) <| .c (10, .p) <| .c (11, .l) <| .c (12, .e) <| .c (13, .p) <| .n) [] (by kernel_rfl) (by kernel_rfl) (by kernel_rfl) H
theorem dy111_5 {h0 : AH} {L : List It} {Q : Exit → List AV → List It → Prop} {a : List AV} {id : Nat} (H : LX Try.prog ⟨[12], []⟩ h0 L L (.c (⟨some 99, .move (.tmp 10), none⟩, .p) <| .c (⟨some 100, .move (.tmp 11), none⟩, .p) <| .c (⟨some 101, .binOp .leq 3 (.tmp 99) (.tmp 100) 3, none⟩, .p) <| .c (⟨some 102, .move (.tmp 101), none⟩, .p) <| .c (⟨some 103, .move (.tmp 0), some (102, true)⟩, .p) <| .c (⟨some 104, .move (.tmp 10), some (102, true)⟩, .p) <| .c (⟨some 105, .indexAddr 22 (.tmp 103) (.tmp 104), some (102, true)⟩, .p) <| .c (⟨some 106, .load 3 (.tmp 105), some (102, true)⟩, .l) <| .c (⟨some 107, .move (.tmp 0), some (102, true)⟩, .p) <| .c (⟨some 108, .move (.tmp 1), some (102, true)⟩, .p) <| .c (⟨some 109, .indexAddr 22 (.tmp 107) (.tmp 108), some (102, true)⟩, .p) <| .c (⟨some 110, .load 3 (.tmp 109), some (102, true)⟩, .l) <| .c (⟨some 111, .call { callee := .value (.func 109), args := #[.tmp 106, .tmp 110], argTypes := #[3, 3] }, some (102, true)⟩, .f) <| .c (⟨some 112, .pick (.tmp 102) (.tmp 111) (.const (.bool false)), none⟩, .p) <| .n) Q a) : LI Try.prog h0 L (.raw (.region id rg111_5 true)) Q a :=
  LI_draw (.c (0, .p) <| .c (1, .p) <| .c (2, .p) <| .c (3, .p) <| .c (4, .p) <| .c (5, .p) <| .c (6, .p) <| .c (7, .l) <| .c (8, .p) <| .c (9, .p) <| .c (10, .p) <| .c (11, .l) <| .c (12, .f) <| .c (13, .p) <| .n) [12] (by kernel_rfl) (by kernel_rfl) (by kernel_rfl) H
theorem dz111_6 {h0 : AH} {L : List It} {Q : Exit → List AV → List It → Prop} {a : List AV} {id : Nat} (H : LX Try.prog ⟨[], []⟩ h0 L L (.c (⟨some 115, .move (.tmp 10), none⟩, .p) <| .c (⟨some 116, .move (.tmp 11), none⟩, .p) <| .c (⟨some 117, .binOp .leq 3 (.tmp 115) (.tmp 116) 3, none⟩, .p) <| .c (⟨some 118, .move (.tmp 117), none⟩, .p) <| .c (⟨some 119, .move (.tmp 0), some (118, true)⟩, .p) <| .c (⟨some 120, .move (.tmp 11), some (118, true)⟩, .p) <| .c (⟨some 121, .indexAddr 22 (.tmp 119) (.tmp 120), some (118, true)⟩, .p) <| .c (⟨some 122, .load 3 (.tmp 121), some (118, true)⟩, .l) <| .c (⟨some 123, .move (.tmp 0), some (118, true)⟩, .p) <| .c (⟨some 124, .move (.tmp 1), some (118, true)⟩, .p) <| .c (⟨some 125, .indexAddr 22 (.tmp 123) (.tmp 124), some (118, true)⟩, .p) <| .c (⟨some 126, .load 3 (.tmp 125), some (118, true)⟩, .l) <| .c (⟨some 127, .call { callee := .value (.func 109), args := #[.tmp 122, .tmp 126], argTypes := #[3, 3] }, some (118, true)⟩, .e) <| .c (⟨some 128, .unOp .not 4 (.tmp 127), some (118, true)⟩, .p) <| .c (⟨some 129, .pick (.tmp 118) (.tmp 128) (.const (.bool false)), none⟩, .p) <| .n) Q a) : LI Try.prog h0 L (.raw (.region id rg111_6 true)) Q a :=
  LI_draw (.c (0, .p) <| .c (1, .p) <| .c (2, .p) <| .c (3, .p) <| .c (4, .p) <| .c (5, .p) <| .c (6, .p) <| .c (7, .l) <| .c (8, .p) <| .c (9, .p) <| .c (10, .p) <| .c (11, .l) <| .c (12, .e) <| .c (13, .p) <| .c (14, .p) <| .n) [] (by kernel_rfl) (by kernel_rfl) (by kernel_rfl) H
theorem dy111_6 {h0 : AH} {L : List It} {Q : Exit → List AV → List It → Prop} {a : List AV} {id : Nat} (H : LX Try.prog ⟨[12], []⟩ h0 L L (.c (⟨some 115, .move (.tmp 10), none⟩, .p) <| .c (⟨some 116, .move (.tmp 11), none⟩, .p) <| .c (⟨some 117, .binOp .leq 3 (.tmp 115) (.tmp 116) 3, none⟩, .p) <| .c (⟨some 118, .move (.tmp 117), none⟩, .p) <| .c (⟨some 119, .move (.tmp 0), some (118, true)⟩, .p) <| .c (⟨some 120, .move (.tmp 11), some (118, true)⟩, .p) <| .c (⟨some 121, .indexAddr 22 (.tmp 119) (.tmp 120), some (118, true)⟩, .p) <| .c (⟨some 122, .load 3 (.tmp 121), some (118, true)⟩, .l) <| .c (⟨some 123, .move (.tmp 0), some (118, true)⟩, .p) <| .c (⟨some 124, .move (.tmp 1), some (118, true)⟩, .p) <| .c (⟨some 125, .indexAddr 22 (.tmp 123) (.tmp 124), some (118, true)⟩, .p) <| .c (⟨some 126, .load 3 (.tmp 125), some (118, true)⟩, .l) <| .c (⟨some 127, .call { callee := .value (.func 109), args := #[.tmp 122, .tmp 126], argTypes := #[3, 3] }, some (118, true)⟩, .f) <| .c (⟨some 128, .unOp .not 4 (.tmp 127), some (118, true)⟩, .p) <| .c (⟨some 129, .pick (.tmp 118) (.tmp 128) (.const (.bool false)), none⟩, .p) <| .n) Q a) : LI Try.prog h0 L (.raw (.region id rg111_6 true)) Q a :=
  LI_draw (.c (0, .p) <| .c (1, .p) <| .c (2, .p) <| .c (3, .p) <| .c (4, .p) <| .c (5, .p) <| .c (6, .p) <| .c (7, .l) <| .c (8, .p) <| .c (9, .p) <| .c (10, .p) <| .c (11, .l) <| .c (12, .f) <| .c (13, .p) <| .c (14, .p) <| .n) [12] (by kernel_rfl) (by kernel_rfl) (by kernel_rfl) H
theorem dz111_7 {h0 : AH} {L : List It} {Q : Exit → List AV → List It → Prop} {a : List AV} {id : Nat} (H : LX Try.prog ⟨[13, 15], []⟩ h0 L L (.c (⟨some 135, .move (.tmp 0), none⟩, .p) <| .c (⟨some 136, .move (.tmp 10), none⟩, .p) <| .c (⟨some 137, .move (.tmp 0), none⟩, .p) <| .c (⟨some 138, .move (.tmp 11), none⟩, .p) <| .c (⟨some 139, .move (.tmp 0), none⟩, .p) <| .c (⟨some 140, .move (.tmp 11), none⟩, .p) <| .c (⟨some 141, .indexAddr 22 (.tmp 139) (.tmp 140), none⟩, .p) <| .c (⟨some 142, .load 3 (.tmp 141), none⟩, .l) <| .c (⟨some 143, .move (.tmp 0), none⟩, .p) <| .c (⟨some 144, .move (.tmp 10), none⟩, .p) <| .c (⟨some 145, .indexAddr 22 (.tmp 143) (.tmp 144), none⟩, .p) <| .c (⟨some 146, .load 3 (.tmp 145), none⟩, .l) <| .c (⟨some 147, .indexAddr 22 (.tmp 135) (.tmp 136), none⟩, .p) <| .c (⟨none, .store 3 (.tmp 147) (.tmp 142), none⟩, .f) <| .c (⟨some 148, .indexAddr 22 (.tmp 137) (.tmp 138), none⟩, .p) <| .c (⟨none, .store 3 (.tmp 148) (.tmp 146), none⟩, .f) <| .n) Q a) : LI Try.prog h0 L (.raw (.region id rg111_7 true)) Q a :=
  LI_draw (.c (0, .p) <| .c (1, .p) <| .c (2, .p) <| .c (3, .p) <| .c (4, .p) <| .c (5, .p) <| .c (6, .p) <| .c (7, .l) <| .c (8, .p) <| .c (9, .p) <| .c (10, .p) <| .c (11, .l) <| .c (12, .p) <| .c (13, .f) <| .c (14, .p) <| .c (15, .f) <| .n) [13, 15] (by kernel_rfl) (by kernel_rfl) (by kernel_rfl) H
theorem dr111_7 (m : Nat) {Q : Exit → List AV → AH → Prop} {a : List AV} {h : AH} {id : Nat} (H : AX Try.prog m h [(⟨some 135, .move (.tmp 0), none⟩, true),
  (⟨some 136, .move (.tmp 10), none⟩, true),
  (⟨some 137, .move (.tmp 0), none⟩, true),
  (⟨some 138, .move (.tmp 11), none⟩, true),
  (⟨some 139, .move (.tmp 0), none⟩, true),
  (⟨some 140, .move (.tmp 11), none⟩, true),
  (⟨some 141, .indexAddr 22 (.tmp 139) (.tmp 140), none⟩, true),
  (⟨some 142, .load 3 (.tmp 141), none⟩, true),
  (⟨some 143, .move (.tmp 0), none⟩, true),
  (⟨some 144, .move (.tmp 10), none⟩, true),
  (⟨some 145, .indexAddr 22 (.tmp 143) (.tmp 144), none⟩, true),
  (⟨some 146, .load 3 (.tmp 145), none⟩, true),
  (⟨some 147, .indexAddr 22 (.tmp 135) (.tmp 136), none⟩, true),
  (⟨none, .store 3 (.tmp 147) (.tmp 142), none⟩, false),
  (⟨some 148, .indexAddr 22 (.tmp 137) (.tmp 138), none⟩, true),
  (⟨none, .store 3 (.tmp 148) (.tmp 146), none⟩, false)] (fun a' h' => Q .normal a' h') a h) : AI Try.prog (.raw (.region id rg111_7 true)) Q a h :=
  AI_draw [(0, true), (1, true), (2, true), (3, true), (4, true), (5, true), (6, true), (7, true), (8, true), (9, true), (10, true), (11, true), (12, true), (13, false), (14, true), (15, false)] m (by kernel_rfl) (by kernel_rfl) (by kernel_rfl) H
theorem dz111_8 {h0 : AH} {L : List It} {Q : Exit → List AV → List It → Prop} {a : List AV} {id : Nat} (H : LX Try.prog ⟨[13, 15], []⟩ h0 L L (.c (⟨some 153, .move (.tmp 0), none⟩, .p) <| .c (⟨some 154, .move (.tmp 11), none⟩, .p) <| .c (⟨some 155, .move (.tmp 0), none⟩, .p) <| .c (⟨some 156, .move (.tmp 1), none⟩, .p) <| .c (⟨some 157, .move (.tmp 0), none⟩, .p) <| .c (⟨some 158, .move (.tmp 1), none⟩, .p) <| .c (⟨some 159, .indexAddr 22 (.tmp 157) (.tmp 158), none⟩, .p) <| .c (⟨some 160, .load 3 (.tmp 159), none⟩, .l) <| .c (⟨some 161, .move (.tmp 0), none⟩, .p) <| .c (⟨some 162, .move (.tmp 11), none⟩, .p) <| .c (⟨some 163, .indexAddr 22 (.tmp 161) (.tmp 162), none⟩, .p) <| .c (⟨some 164, .load 3 (.tmp 163), none⟩, .l) <| .c (⟨some 165, .indexAddr 22 (.tmp 153) (.tmp 154), none⟩, .p) <| .c (⟨none, .store 3 (.tmp 165) (.tmp 160), none⟩, .f) <| .c (⟨some 166, .indexAddr 22 (.tmp 155) (.tmp 156), none⟩, .p) <| .c (⟨none, .store 3 (.tmp 166) (.tmp 164), none⟩, .f) <| .n) Q a) : LI Try.prog h0 L (.raw (.region id rg111_8 true)) Q a :=
  LI_draw (.c (0, .p) <| .c (1, .p) <| .c (2, .p) <| .c (3, .p) <| .c (4, .p) <| .c (5, .p) <| .c (6, .p) <| .c (7, .l) <| .c (8, .p) <| .c (9, .p) <| .c (10, .p) <| .c (11, .l) <| .c (12, .p) <| .c (13, .f) <| .c (14, .p) <| .c (15, .f) <| .n) [13, 15] (by kernel_rfl) (by kernel_rfl) (by kernel_rfl) H
theorem dr111_8 (m : Nat) {Q : Exit → List AV → AH → Prop} {a : List AV} {h : AH} {id : Nat} (H : AX Try.prog m h [(⟨some 153, .move (.tmp 0), none⟩, true),
  (⟨some 154, .move (.tmp 11), none⟩, true),
  (⟨some 155, .move (.tmp 0), none⟩, true),
  (⟨some 156, .move (.tmp 1), none⟩, true),
  (⟨some 157, .move (.tmp 0), none⟩, true),
  (⟨some 158, .move (.tmp 1), none⟩, true),
  (⟨some 159, .indexAddr 22 (.tmp 157) (.tmp 158), none⟩, true),
  (⟨some 160, .load 3 (.tmp 159), none⟩, true),
  (⟨some 161, .move (.tmp 0), none⟩, true),
  (⟨some 162, .move (.tmp 11), none⟩, true),
  (⟨some 163, .indexAddr 22 (.tmp 161) (.tmp 162), none⟩, true),
  (⟨some 164, .load 3 (.tmp 163), none⟩, true),
  (⟨some 165, .indexAddr 22 (.tmp 153) (.tmp 154), none⟩, true),
  (⟨none, .store 3 (.tmp 165) (.tmp 160), none⟩, false),
  (⟨some 166, .indexAddr 22 (.tmp 155) (.tmp 156), none⟩, true),
  (⟨none, .store 3 (.tmp 166) (.tmp 164), none⟩, false)] (fun a' h' => Q .normal a' h') a h) : AI Try.prog (.raw (.region id rg111_8 true)) Q a h :=
  AI_draw [(0, true), (1, true), (2, true), (3, true), (4, true), (5, true), (6, true), (7, true), (8, true), (9, true), (10, true), (11, true), (12, true), (13, false), (14, true), (15, false)] m (by kernel_rfl) (by kernel_rfl) (by kernel_rfl) H

noncomputable def rg102_0 : Array Oper := rawAt Try.f102 0
-- NO ORDER
/-- slices.pdqsortOrdered[int] -/
noncomputable def c102 : IC :=
  (.seq
  (.reg [
    ⟨some 8, .assign (.const (.bool true)), none⟩])
  (.seq
  (.reg [
    ⟨some 9, .assign (.const (.bool true)), none⟩])
  (.block 0
  (.loop
    (.block 1
    (.seq
    (.reg [
      ⟨some 19, .move (.tmp 2), none⟩,
      ⟨some 20, .move (.tmp 1), none⟩,
      ⟨some 21, .binOp .sub 3 (.tmp 19) (.tmp 20) 3, none⟩,
      ⟨some 10, .assign (.tmp 21), none⟩])
    (.seq
    (.seq
    (.reg [
      ⟨some 22, .move (.tmp 10), none⟩,
      ⟨some 23, .binOp .leq 3 (.tmp 22) (.const (.int .i64 12)) 3, none⟩])
    (.cond (.tmp 23)
      (.seq
      (.reg [
        ⟨some 24, .move (.tmp 0), none⟩,
        ⟨some 25, .move (.tmp 1), none⟩,
        ⟨some 26, .move (.tmp 2), none⟩,
        ⟨some 27, .call { callee := .value (.func 103), args := #[.tmp 24, .tmp 25, .tmp 26], argTypes := #[22, 3, 3] }, none⟩])
      .ret)
      .skip))
    (.seq
    (.seq
    (.reg [
      ⟨some 28, .move (.tmp 3), none⟩,
      ⟨some 29, .binOp .eql 3 (.tmp 28) (.const (.int .i64 0)) 3, none⟩])
    (.cond (.tmp 29)
      (.seq
      (.reg [
        ⟨some 30, .move (.tmp 0), none⟩,
        ⟨some 31, .move (.tmp 1), none⟩,
        ⟨some 32, .move (.tmp 2), none⟩,
        ⟨some 33, .call { callee := .value (.func 104), args := #[.tmp 30, .tmp 31, .tmp 32], argTypes := #[22, 3, 3] }, none⟩])
      .ret)
      .skip))
    (.seq
    (.seq
    (.reg [
      ⟨some 34, .move (.tmp 8), none⟩,
      ⟨some 35, .unOp .not 4 (.tmp 34), none⟩])
    (.cond (.tmp 35)
      (.seq
      (.reg [
        ⟨some 36, .move (.tmp 0), none⟩,
        ⟨some 37, .move (.tmp 1), none⟩,
        ⟨some 38, .move (.tmp 2), none⟩,
        ⟨some 39, .call { callee := .value (.func 105), args := #[.tmp 36, .tmp 37, .tmp 38], argTypes := #[22, 3, 3] }, none⟩])
      (.reg [
        ⟨some 40, .move (.tmp 3), none⟩,
        ⟨some 41, .binOp .sub 3 (.tmp 40) (.const (.int .i64 1)) 3, none⟩,
        ⟨some 3, .assign (.tmp 41), none⟩]))
      .skip))
    (.seq
    (.reg [
      ⟨some 43, .move (.tmp 0), none⟩,
      ⟨some 44, .move (.tmp 1), none⟩,
      ⟨some 45, .move (.tmp 2), none⟩,
      ⟨some 46, .call { callee := .value (.func 106), args := #[.tmp 43, .tmp 44, .tmp 45], argTypes := #[22, 3, 3] }, none⟩,
      ⟨some 42, .move (.tmp 46), none⟩,
      ⟨some 47, .extract (.tmp 42) 0, none⟩,
      ⟨some 48, .extract (.tmp 42) 1, none⟩,
      ⟨some 11, .assign (.tmp 47), none⟩,
      ⟨some 12, .assign (.tmp 48), none⟩])
    (.seq
    (.seq
    (.reg [
      ⟨some 49, .move (.tmp 12), none⟩,
      ⟨some 50, .binOp .eql 79 (.tmp 49) (.const (.int .i64 2)) 79, none⟩])
    (.cond (.tmp 50)
      (.seq
      (.reg [
        ⟨some 51, .move (.tmp 0), none⟩,
        ⟨some 52, .move (.tmp 1), none⟩,
        ⟨some 53, .move (.tmp 2), none⟩,
        ⟨some 54, .call { callee := .value (.func 107), args := #[.tmp 51, .tmp 52, .tmp 53], argTypes := #[22, 3, 3] }, none⟩])
      (.seq
      (.reg [
        ⟨some 55, .move (.tmp 2), none⟩,
        ⟨some 56, .binOp .sub 3 (.tmp 55) (.const (.int .i64 1)) 3, none⟩,
        ⟨some 57, .move (.tmp 11), none⟩,
        ⟨some 58, .move (.tmp 1), none⟩,
        ⟨some 59, .binOp .sub 3 (.tmp 57) (.tmp 58) 3, none⟩,
        ⟨some 60, .binOp .sub 3 (.tmp 56) (.tmp 59) 3, none⟩,
        ⟨some 11, .assign (.tmp 60), none⟩])
      (.reg [
        ⟨some 12, .assign (.const (.int .i64 1)), none⟩])))
      .skip))
    (.seq
    (.seq
    (.reg [
      ⟨some 61, .move (.tmp 8), none⟩,
      ⟨some 62, .move (.tmp 61), none⟩,
      ⟨some 63, .move (.tmp 9), some (62, true)⟩,
      ⟨some 64, .pick (.tmp 62) (.tmp 63) (.const (.bool false)), none⟩,
      ⟨some 65, .move (.tmp 64), none⟩,
      ⟨some 66, .move (.tmp 12), some (65, true)⟩,
      ⟨some 67, .binOp .eql 79 (.tmp 66) (.const (.int .i64 1)) 79, some (65, true)⟩,
      ⟨some 68, .pick (.tmp 65) (.tmp 67) (.const (.bool false)), none⟩])
    (.cond (.tmp 68)
      (.seq
      (.reg [
        ⟨some 69, .move (.tmp 0), none⟩,
        ⟨some 70, .move (.tmp 1), none⟩,
        ⟨some 71, .move (.tmp 2), none⟩,
        ⟨some 72, .call { callee := .value (.func 108), args := #[.tmp 69, .tmp 70, .tmp 71], argTypes := #[22, 3, 3] }, none⟩])
      (.cond (.tmp 72)
        .ret
        .skip))
      .skip))
    (.seq
    (.seq
    (.raw (.region 17 rg102_0 true))
    (.cond (.tmp 87)
      (.seq
      (.reg [
        ⟨some 88, .move (.tmp 0), none⟩,
        ⟨some 89, .move (.tmp 1), none⟩,
        ⟨some 90, .move (.tmp 2), none⟩,
        ⟨some 91, .move (.tmp 11), none⟩,
        ⟨some 92, .call { callee := .value (.func 110), args := #[.tmp 88, .tmp 89, .tmp 90, .tmp 91], argTypes := #[22, 3, 3, 3] }, none⟩,
        ⟨some 13, .assign (.tmp 92), none⟩])
      (.seq
      (.reg [
        ⟨some 93, .move (.tmp 13), none⟩,
        ⟨some 1, .assign (.tmp 93), none⟩])
      (.exit 1)))
      .skip))
    (.seq
    (.reg [
      ⟨some 95, .move (.tmp 0), none⟩,
      ⟨some 96, .move (.tmp 1), none⟩,
      ⟨some 97, .move (.tmp 2), none⟩,
      ⟨some 98, .move (.tmp 11), none⟩,
      ⟨some 99, .call { callee := .value (.func 111), args := #[.tmp 95, .tmp 96, .tmp 97, .tmp 98], argTypes := #[22, 3, 3, 3] }, none⟩,
      ⟨some 94, .move (.tmp 99), none⟩,
      ⟨some 100, .extract (.tmp 94) 0, none⟩,
      ⟨some 101, .extract (.tmp 94) 1, none⟩,
      ⟨some 14, .assign (.tmp 100), none⟩,
      ⟨some 15, .assign (.tmp 101), none⟩])
    (.seq
    (.reg [
      ⟨some 102, .move (.tmp 15), none⟩,
      ⟨some 9, .assign (.tmp 102), none⟩])
    (.seq
    (.reg [
      ⟨some 103, .move (.tmp 14), none⟩,
      ⟨some 104, .move (.tmp 1), none⟩,
      ⟨some 105, .binOp .sub 3 (.tmp 103) (.tmp 104) 3, none⟩,
      ⟨some 106, .move (.tmp 2), none⟩,
      ⟨some 107, .move (.tmp 14), none⟩,
      ⟨some 108, .binOp .sub 3 (.tmp 106) (.tmp 107) 3, none⟩,
      ⟨some 16, .assign (.tmp 105), none⟩,
      ⟨some 17, .assign (.tmp 108), none⟩])
    (.seq
    (.reg [
      ⟨some 109, .move (.tmp 10), none⟩,
      ⟨some 110, .binOp .quo 3 (.tmp 109) (.const (.int .i64 8)) 3, none⟩,
      ⟨some 18, .assign (.tmp 110), none⟩])
    (.seq
    (.reg [
      ⟨some 111, .move (.tmp 16), none⟩,
      ⟨some 112, .move (.tmp 17), none⟩,
      ⟨some 113, .binOp .lss 3 (.tmp 111) (.tmp 112) 3, none⟩])
    (.cond (.tmp 113)
      (.seq
      (.reg [
        ⟨some 114, .move (.tmp 16), none⟩,
        ⟨some 115, .move (.tmp 18), none⟩,
        ⟨some 116, .binOp .geq 3 (.tmp 114) (.tmp 115) 3, none⟩,
        ⟨some 8, .assign (.tmp 116), none⟩])
      (.seq
      (.reg [
        ⟨some 117, .move (.tmp 0), none⟩,
        ⟨some 118, .move (.tmp 1), none⟩,
        ⟨some 119, .move (.tmp 14), none⟩,
        ⟨some 120, .move (.tmp 3), none⟩,
        ⟨some 121, .call { callee := .value (.func 102), args := #[.tmp 117, .tmp 118, .tmp 119, .tmp 120], argTypes := #[22, 3, 3, 3] }, none⟩])
      (.reg [
        ⟨some 122, .move (.tmp 14), none⟩,
        ⟨some 123, .binOp .add 3 (.tmp 122) (.const (.int .i64 1)) 3, none⟩,
        ⟨some 1, .assign (.tmp 123), none⟩])))
      (.seq
      (.reg [
        ⟨some 124, .move (.tmp 17), none⟩,
        ⟨some 125, .move (.tmp 18), none⟩,
        ⟨some 126, .binOp .geq 3 (.tmp 124) (.tmp 125) 3, none⟩,
        ⟨some 8, .assign (.tmp 126), none⟩])
      (.seq
      (.reg [
        ⟨some 127, .move (.tmp 0), none⟩,
        ⟨some 128, .move (.tmp 14), none⟩,
        ⟨some 129, .binOp .add 3 (.tmp 128) (.const (.int .i64 1)) 3, none⟩,
        ⟨some 130, .move (.tmp 2), none⟩,
        ⟨some 131, .move (.tmp 3), none⟩,
        ⟨some 132, .call { callee := .value (.func 102), args := #[.tmp 127, .tmp 129, .tmp 130, .tmp 131], argTypes := #[22, 3, 3, 3] }, none⟩])
      (.reg [
        ⟨some 133, .move (.tmp 14), none⟩,
        ⟨some 2, .assign (.tmp 133), none⟩]))))))))))))))))))))))
theorem hd102 : Try.f102.body.map dec = some c102 := by kernel_rfl
theorem e102 {R : AV → AH → Prop} {h : AH} (x0 x1 x2 x3 : AV) (H : h.wf → AI Try.prog c102 (RetQ Try.prog [] R) [x0, x1, x2, x3, un, un, un, un, un, un, un, un, un, un, un, un, un, un, un, un, un, un, un, un, un, un, un, un, un, un, un, un, un, un, un, un, un, un, un, un, un, un, un, un, un, un, un, un, un, un, un, un, un, un, un, un, un, un, un, un, un, un, un, un, un, un, un, un, un, un, un, un, un, un, un, un, un, un, un, un, un, un, un, un, un, un, un, un, un, un, un, un, un, un, un, un, un, un, un, un, un, un, un, un, un, un, un, un, un, un, un, un, un, un, un, un, un, un, un, un, un, un, un, un, un, un, un, un, un, un, un, un, un, un] h) : AC Try.prog 102 [x0, x1, x2, x3] h R :=
  AC_of' (rs := []) Try.func102 (by kernel_rfl) hd102 Try.ntmps102 rfl H
theorem dz102_0 {h0 : AH} {L : List It} {Q : Exit → List AV → List It → Prop} {a : List AV} {id : Nat} (H : LX Try.prog ⟨[], []⟩ h0 L L (.c (⟨some 73, .move (.tmp 1), none⟩, .p) <| .c (⟨some 74, .binOp .gtr 3 (.tmp 73) (.const (.int .i64 0)) 3, none⟩, .p) <| .c (⟨some 75, .move (.tmp 74), none⟩, .p) <| .c (⟨some 76, .move (.tmp 0), some (75, true)⟩, .p) <| .c (⟨some 77, .move (.tmp 1), some (75, true)⟩, .p) <| .c (⟨some 78, .binOp .sub 3 (.tmp 77) (.const (.int .i64 1)) 3, some (75, true)⟩, .p) <| .c (⟨some 79, .indexAddr 22 (.tmp 76) (.tmp 78), some (75, true)⟩, .p) <| .c (⟨some 80, .load 3 (.tmp 79), some (75, true)⟩, .l) <| .c (⟨some 81, .move (.tmp 0), some (75, true)⟩, .p) <| .c (⟨some 82, .move (.tmp 11), some (75, true)⟩, .p) <| .c (⟨some 83, .indexAddr 22 (.tmp 81) (.tmp 82), some (75, true)⟩, .p) <| .c (⟨some 84, .load 3 (.tmp 83), some (75, true)⟩, .l) <| .c (⟨some 85, .call { callee := .value (.func 109), args := #[.tmp 80, .tmp 84], argTypes := #[3, 3] }, some (75, true)⟩, .e) <| .c (⟨some 86, .unOp .not 4 (.tmp 85), some (75, true)⟩, .p) <| .c (⟨some 87, .pick (.tmp 75) (.tmp 86) (.const (.bool false)), none⟩, .p) <| .n) Q a) : LI Try.prog h0 L (.raw (.region id rg102_0 true)) Q a :=
  LI_draw (.c (0, .p) <| .c (1, .p) <| .c (2, .p) <| .c (3, .p) <| .c (4, .p) <| .c (5, .p) <| .c (6, .p) <| .c (7, .l) <| .c (8, .p) <| .c (9, .p) <| .c (10, .p) <| .c (11, .l) <| .c (12, .e) <| .c (13, .p) <| .c (14, .p) <| .n) [] (by kernel_rfl) (by kernel_rfl) (by kernel_rfl) H
theorem dy102_0 {h0 : AH} {L : List It} {Q : Exit → List AV → List It → Prop} {a : List AV} {id : Nat} (H : LX Try.prog ⟨[12], []⟩ h0 L L (.c (⟨some 73, .move (.tmp 1), none⟩, .p) <| .c (⟨some 74, .binOp .gtr 3 (.tmp 73) (.const (.int .i64 0)) 3, none⟩, .p) <| .c (⟨some 75, .move (.tmp 74), none⟩, .p) <| .c (⟨some 76, .move (.tmp 0), some (75, true)⟩, .p) <| .c (⟨some 77, .move (.tmp 1), some (75, true)⟩, .p) <| .c (⟨some 78, .binOp .sub 3 (.tmp 77) (.const (.int .i64 1)) 3, some (75, true)⟩, .p) <| .c (⟨some 79, .indexAddr 22 (.tmp 76) (.tmp 78), some (75, true)⟩, .p) <| .c (⟨some 80, .load 3 (.tmp 79), some (75, true)⟩, .l) <| .c (⟨some 81, .move (.tmp 0), some (75, true)⟩, .p) <| .c (⟨some 82, .move (.tmp 11), some (75, true)⟩, .p) <| .c (⟨some 83, .indexAddr 22 (.tmp 81) (.tmp 82), some (75, true)⟩, .p) <| .c (⟨some 84, .load 3 (.tmp 83), some (75, true)⟩, .l) <| .c (⟨some 85, .call { callee := .value (.func 109), args := #[.tmp 80, .tmp 84], argTypes := #[3, 3] }, some (75, true)⟩, .f) <| .c (⟨some 86, .unOp .not 4 (.tmp 85), some (75, true)⟩, .p) <| .c (⟨some 87, .pick (.tmp 75) (.tmp 86) (.const (.bool false)), none⟩, .p) <| .n) Q a) : LI Try.prog h0 L (.raw (.region id rg102_0 true)) Q a :=
  LI_draw (.c (0, .p) <| .c (1, .p) <| .c (2, .p) <| .c (3, .p) <| .c (4, .p) <| .c (5, .p) <| .c (6, .p) <| .c (7, .l) <| .c (8, .p) <| .c (9, .p) <| .c (10, .p) <| .c (11, .l) <| .c (12, .f) <| .c (13, .p) <| .c (14, .p) <| .n) [12] (by kernel_rfl) (by kernel_rfl) (by kernel_rfl) H

/-- slices.Sort[[]int,int] -/
def c87 : IC :=
  (.seq
  (.reg [
    ⟨some 3, .move (.tmp 0), none⟩,
    ⟨some 4, .call { callee := .builtin .len, args := #[.tmp 3], argTypes := #[22] }, none⟩,
    ⟨some 2, .assign (.tmp 4), none⟩])
  (.reg [
    ⟨some 5, .move (.tmp 0), none⟩,
    ⟨some 6, .move (.tmp 2), none⟩,
    ⟨some 7, .move (.tmp 2), none⟩,
    ⟨some 8, .convert 3 67 (.tmp 7), none⟩,
    ⟨some 9, .call { callee := .value (.func 83), args := #[.tmp 8], argTypes := #[67] }, none⟩,
    ⟨some 10, .call { callee := .value (.func 102), args := #[.tmp 5, .const (.int .i64 0), .tmp 6, .tmp 9], argTypes := #[22, 3, 3, 3] }, none⟩]))
theorem hd87 : Try.f87.body.map dec = some c87 := by kernel_rfl
theorem e87 {R : AV → AH → Prop} {h : AH} (x0 : AV) (H : h.wf → AI Try.prog c87 (RetQ Try.prog [] R) [x0, un, un, un, un, un, un, un, un, un, un] h) : AC Try.prog 87 [x0] h R :=
  AC_of' (rs := []) Try.func87 (by kernel_rfl) hd87 Try.ntmps87 rfl H

/-- impl.StarEnds -/
def c53 : IC :=
  (.seq
  (.reg [
    ⟨some 2, .assign (.const (.slice none 0 0)), none⟩,
    ⟨some 3, .assign (.const (.bool false)), none⟩])
  (.seq
  (.seq
  (.reg [
    ⟨some 7, .move (.tmp 0), none⟩,
    ⟨some 8, .call { callee := .value (.func 65), args := #[.tmp 7, .const (.int .i64 0), .const (.int .i64 6)], argTypes := #[3, 3, 3] }, none⟩,
    ⟨some 9, .unOp .not 4 (.tmp 8), none⟩])
  (.cond (.tmp 9)
    (.seq
    (.reg [
      ⟨some 2, .assign (.const (.slice none 0 0)), none⟩,
      ⟨some 3, .assign (.const (.bool false)), none⟩])
    .ret)
    .skip))
  (.seq
  (.reg [
    ⟨some 10, .makeMap 69 none, none⟩,
    ⟨some 11, .buildSlice 22 0 #[], none⟩,
    ⟨some 4, .assign (.tmp 10), none⟩,
    ⟨some 5, .assign (.tmp 11), none⟩])
  (.seq
  (.reg [
    ⟨some 12, .move (.tmp 0), none⟩,
    ⟨some 13, .buildSlice 22 1 #[(0, .const (.int .i64 1))], none⟩,
    ⟨some 14, .move (.tmp 4), none⟩,
    ⟨some 15, .call { callee := .value (.func 86), args := #[.tmp 12, .tmp 13, .tmp 14], argTypes := #[3, 22, 69] }, none⟩])
  (.seq
  (.seq
  (.reg [
    ⟨some 16, .move (.tmp 4), none⟩,
    ⟨some 17, .range 69 (.tmp 16), none⟩])
  (.block 0
  (.loop
    (.seq
    (.reg [
      ⟨some 18, .next (.tmp 17) false, none⟩,
      ⟨some 19, .extract (.tmp 18) 0, none⟩])
    (.seq
    (.cond (.tmp 19)
      .skip
      (.exit 0))
    (.block 1
    (.seq
    (.reg [
      ⟨some 20, .entry (.tmp 17), none⟩,
      ⟨some 21, .extract (.tmp 20) 0, none⟩,
      ⟨some 6, .assign (.tmp 21), none⟩])
    (.reg [
      ⟨some 22, .move (.tmp 5), none⟩,
      ⟨some 23, .move (.tmp 6), none⟩,
      ⟨some 24, .buildSlice 22 1 #[(0, .tmp 23)], none⟩,
      ⟨some 25, .call { callee := .builtin .append, args := #[.tmp 22, .tmp 24], argTypes := #[22, 22] }, none⟩,
      ⟨some 5, .assign (.tmp 25), none⟩]))))))))
  (.seq
  (.reg [
    ⟨some 26, .move (.tmp 5), none⟩,
    ⟨some 27, .call { callee := .value (.func 87), args := #[.tmp 26], argTypes := #[22] }, none⟩])
  (.seq
  (.reg [
    ⟨some 28, .move (.tmp 5), none⟩,
    ⟨some 2, .assign (.tmp 28), none⟩,
    ⟨some 3, .assign (.const (.bool true)), none⟩])
  .ret)))))))
theorem hd53 : Try.f53.body.map dec = some c53 := by kernel_rfl
theorem e53 {R : AV → AH → Prop} {h : AH} (x0 : AV) (H : h.wf → AI Try.prog c53 (RetQ Try.prog [.tmp 2, .tmp 3] R) [x0, un, un, un, un, un, un, un, un, un, un, un, un, un, un, un, un, un, un, un, un, un, un, un, un, un, un, un, un] h) : AC Try.prog 53 [x0] h R :=
  AC_of' (rs := [.tmp 2, .tmp 3]) Try.func53 (by kernel_rfl) hd53 Try.ntmps53 rfl H

noncomputable def rg93_0 : Array Oper := rawAt Try.f93 0
noncomputable def rg93_1 : Array Oper := rawAt Try.f93 1
noncomputable def rg93_2 : Array Oper := rawAt Try.f93 2
/-- (*spec.l1Cur).next -/
noncomputable def c93 : IC :=
  (.seq
  (.reg [
    ⟨some 2, .assign (.const (.int .i64 0)), none⟩])
  (.seq
  (.reg [
    ⟨some 3, .assign (.const (.int .i64 0)), none⟩])
  (.seq
  (.seq
  (.raw (.region 2 rg93_0 true))
  (.cond (.tmp 13)
    (.raw (.region 3 rg93_1 true))
    .skip))
  (.seq
  (.reg [
    ⟨some 25, .move (.tmp 0), none⟩,
    ⟨some 26, .nilCheck (.tmp 25), none⟩,
    ⟨some 27, .fieldAddr 61 (.tmp 26) 1, none⟩,
    ⟨some 28, .load 3 (.tmp 27), none⟩,
    ⟨some 29, .binOp .add 3 (.tmp 28) (.const (.int .i64 1)) 3, none⟩,
    ⟨some 30, .nilCheck (.tmp 25), none⟩,
    ⟨some 31, .fieldAddr 61 (.tmp 30) 1, none⟩,
    ⟨none, .store 3 (.tmp 31) (.tmp 29), none⟩])
  (.seq
  (.reg [
    ⟨some 32, .move (.tmp 0), none⟩,
    ⟨some 33, .move (.tmp 0), none⟩,
    ⟨some 34, .nilCheck (.tmp 33), none⟩,
    ⟨some 35, .fieldAddr 61 (.tmp 34) 2, none⟩,
    ⟨some 36, .load 59 (.tmp 35), none⟩,
    ⟨some 37, .binOp .mul 59 (.tmp 36) (.const (.int .u64 6364136223846793005)) 59, none⟩,
    ⟨some 38, .move (.tmp 3), none⟩,
    ⟨some 39, .convert 3 59 (.tmp 38), none⟩,
    ⟨some 40, .binOp .add 59 (.tmp 37) (.tmp 39) 59, none⟩,
    ⟨some 41, .binOp .add 59 (.tmp 40) (.const (.int .u64 1442695040888963407)) 59, none⟩,
    ⟨some 42, .nilCheck (.tmp 32), none⟩,
    ⟨some 43, .fieldAddr 61 (.tmp 42) 2, none⟩,
    ⟨none, .store 59 (.tmp 43) (.tmp 41), none⟩])
  (.seq
  (.seq
  (.raw (.region 6 rg93_2 true))
  (.cond (.tmp 53)
    (.seq
    (.reg [
      ⟨some 54, .move (.tmp 3), none⟩,
      ⟨some 2, .assign (.tmp 54), none⟩])
    .ret)
    .skip))
  (.seq
  (.reg [
    ⟨some 55, .move (.tmp 0), none⟩,
    ⟨some 56, .nilCheck (.tmp 55), none⟩,
    ⟨some 57, .fieldAddr 61 (.tmp 56) 2, none⟩,
    ⟨some 58, .load 59 (.tmp 57), none⟩,
    ⟨some 59, .binOp .shr 59 (.tmp 58) (.const (.int .u64 40)) 67, none⟩,
    ⟨some 60, .binOp .and 59 (.tmp 59) (.const (.int .u64 255)) 59, none⟩,
    ⟨some 61, .convert 59 3 (.tmp 60), none⟩,
    ⟨some 2, .assign (.tmp 61), none⟩])
  .ret)))))))
theorem hd93 : Try.f93.body.map dec = some c93 := by kernel_rfl
theorem e93 {R : AV → AH → Prop} {h : AH} (x0 : AV) (H : h.wf → AI Try.prog c93 (RetQ Try.prog [.tmp 2] R) [x0, un, un, un, un, un, un, un, un, un, un, un, un, un, un, un, un, un, un, un, un, un, un, un, un, un, un, un, un, un, un, un, un, un, un, un, un, un, un, un, un, un, un, un, un, un, un, un, un, un, un, un, un, un, un, un, un, un, un, un, un, un] h) : AC Try.prog 93 [x0] h R :=
  AC_of' (rs := [.tmp 2]) Try.func93 (by kernel_rfl) hd93 Try.ntmps93 rfl H
theorem dz93_0 {h0 : AH} {L : List It} {Q : Exit → List AV → List It → Prop} {a : List AV} {id : Nat} (H : LX Try.prog ⟨[], []⟩ h0 L L (.c (⟨some 4, .move (.tmp 0), none⟩, .p) <| .c (⟨some 5, .nilCheck (.tmp 4), none⟩, .p) <| .c (⟨some 6, .fieldAddr 61 (.tmp 5) 1, none⟩, .p) <| .c (⟨some 7, .load 3 (.tmp 6), none⟩, .l) <| .c (⟨some 8, .move (.tmp 0), none⟩, .p) <| .c (⟨some 9, .nilCheck (.tmp 8), none⟩, .p) <| .c (⟨some 10, .fieldAddr 61 (.tmp 9) 0, none⟩, .p) <| .c (⟨some 11, .load 35 (.tmp 10), none⟩, .l) <| .c (⟨some 12, .call { callee := .builtin .len, args := #[.tmp 11], argTypes := #[35] }, none⟩, .p) <| .c (⟨some 13, .binOp .lss 3 (.tmp 7) (.tmp 12) 3, none⟩, .p) <| .n) Q a) : LI Try.prog h0 L (.raw (.region id rg93_0 true)) Q a :=
  LI_draw (.c (0, .p) <| .c (1, .p) <| .c (2, .p) <| .c (3, .l) <| .c (4, .p) <| .c (5, .p) <| .c (6, .p) <| .c (7, .l) <| .c (8, .p) <| .c (9, .p) <| .n) [] (by kernel_rfl) (by kernel_rfl) (by kernel_rfl) H
theorem dr93_0 (m : Nat) {Q : Exit → List AV → AH → Prop} {a : List AV} {h : AH} {id : Nat} (H : AX Try.prog m h [(⟨some 4, .move (.tmp 0), none⟩, true),
  (⟨some 5, .nilCheck (.tmp 4), none⟩, true),
  (⟨some 6, .fieldAddr 61 (.tmp 5) 1, none⟩, true),
  (⟨some 7, .load 3 (.tmp 6), none⟩, true),
  (⟨some 8, .move (.tmp 0), none⟩, true),
  (⟨some 9, .nilCheck (.tmp 8), none⟩, true),
  (⟨some 10, .fieldAddr 61 (.tmp 9) 0, none⟩, true),
  (⟨some 11, .load 35 (.tmp 10), none⟩, true),
  (⟨some 12, .call { callee := .builtin .len, args := #[.tmp 11], argTypes := #[35] }, none⟩, true),
  (⟨some 13, .binOp .lss 3 (.tmp 7) (.tmp 12) 3, none⟩, true)] (fun a' h' => Q .normal a' h') a h) : AI Try.prog (.raw (.region id rg93_0 true)) Q a h :=
  AI_draw [(0, true), (1, true), (2, true), (3, true), (4, true), (5, true), (6, true), (7, true), (8, true), (9, true)] m (by kernel_rfl) (by kernel_rfl) (by kernel_rfl) H
theorem dz93_1 {h0 : AH} {L : List It} {Q : Exit → List AV → List It → Prop} {a : List AV} {id : Nat} (H : LX Try.prog ⟨[], []⟩ h0 L L (.c (⟨some 14, .move (.tmp 0), none⟩, .p) <| .c (⟨some 15, .nilCheck (.tmp 14), none⟩, .p) <| .c (⟨some 16, .fieldAddr 61 (.tmp 15) 0, none⟩, .p) <| .c (⟨some 17, .load 35 (.tmp 16), none⟩, .l) <| .c (⟨some 18, .move (.tmp 0), none⟩, .p) <| .c (⟨some 19, .nilCheck (.tmp 18), none⟩, .p) <| .c (⟨some 20, .fieldAddr 61 (.tmp 19) 1, none⟩, .p) <| .c (⟨some 21, .load 3 (.tmp 20), none⟩, .l) <| .c (⟨some 22, .indexAddr 35 (.tmp 17) (.tmp 21), none⟩, .p) <| .c (⟨some 23, .load 5 (.tmp 22), none⟩, .l) <| .c (⟨some 24, .convert 5 3 (.tmp 23), none⟩, .p) <| .c (⟨some 3, .assign (.tmp 24), none⟩, .p) <| .n) Q a) : LI Try.prog h0 L (.raw (.region id rg93_1 true)) Q a :=
  LI_draw (.c (0, .p) <| .c (1, .p) <| .c (2, .p) <| .c (3, .l) <| .c (4, .p) <| .c (5, .p) <| .c (6, .p) <| .c (7, .l) <| .c (8, .p) <| .c (9, .l) <| .c (10, .p) <| .c (11, .p) <| .n) [] (by kernel_rfl) (by kernel_rfl) (by kernel_rfl) H
theorem dr93_1 (m : Nat) {Q : Exit → List AV → AH → Prop} {a : List AV} {h : AH} {id : Nat} (H : AX Try.prog m h [(⟨some 14, .move (.tmp 0), none⟩, true),
  (⟨some 15, .nilCheck (.tmp 14), none⟩, true),
  (⟨some 16, .fieldAddr 61 (.tmp 15) 0, none⟩, true),
  (⟨some 17, .load 35 (.tmp 16), none⟩, true),
  (⟨some 18, .move (.tmp 0), none⟩, true),
  (⟨some 19, .nilCheck (.tmp 18), none⟩, true),
  (⟨some 20, .fieldAddr 61 (.tmp 19) 1, none⟩, true),
  (⟨some 21, .load 3 (.tmp 20), none⟩, true),
  (⟨some 22, .indexAddr 35 (.tmp 17) (.tmp 21), none⟩, true),
  (⟨some 23, .load 5 (.tmp 22), none⟩, true),
  (⟨some 24, .convert 5 3 (.tmp 23), none⟩, true),
  (⟨some 3, .assign (.tmp 24), none⟩, true)] (fun a' h' => Q .normal a' h') a h) : AI Try.prog (.raw (.region id rg93_1 true)) Q a h :=
  AI_draw [(0, true), (1, true), (2, true), (3, true), (4, true), (5, true), (6, true), (7, true), (8, true), (9, true), (10, true), (11, true)] m (by kernel_rfl) (by kernel_rfl) (by kernel_rfl) H
theorem dz93_2 {h0 : AH} {L : List It} {Q : Exit → List AV → List It → Prop} {a : List AV} {id : Nat} (H : LX Try.prog ⟨[], []⟩ h0 L L (.c (⟨some 44, .move (.tmp 0), none⟩, .p) <| .c (⟨some 45, .nilCheck (.tmp 44), none⟩, .p) <| .c (⟨some 46, .fieldAddr 61 (.tmp 45) 1, none⟩, .p) <| .c (⟨some 47, .load 3 (.tmp 46), none⟩, .l) <| .c (⟨some 48, .move (.tmp 0), none⟩, .p) <| .c (⟨some 49, .nilCheck (.tmp 48), none⟩, .p) <| .c (⟨some 50, .fieldAddr 61 (.tmp 49) 0, none⟩, .p) <| .c (⟨some 51, .load 35 (.tmp 50), none⟩, .l) <| .c (⟨some 52, .call { callee := .builtin .len, args := #[.tmp 51], argTypes := #[35] }, none⟩, .p) <| .c (⟨some 53, .binOp .leq 3 (.tmp 47) (.tmp 52) 3, none⟩, .p) <| .n) Q a) : LI Try.prog h0 L (.raw (.region id rg93_2 true)) Q a :=
  LI_draw (.c (0, .p) <| .c (1, .p) <| .c (2, .p) <| .c (3, .l) <| .c (4, .p) <| .c (5, .p) <| .c (6, .p) <| .c (7, .l) <| .c (8, .p) <| .c (9, .p) <| .n) [] (by kernel_rfl) (by kernel_rfl) (by kernel_rfl) H
theorem dr93_2 (m : Nat) {Q : Exit → List AV → AH → Prop} {a : List AV} {h : AH} {id : Nat} (H : AX Try.prog m h [(⟨some 44, .move (.tmp 0), none⟩, true),
  (⟨some 45, .nilCheck (.tmp 44), none⟩, true),
  (⟨some 46, .fieldAddr 61 (.tmp 45) 1, none⟩, true),
  (⟨some 47, .load 3 (.tmp 46), none⟩, true),
  (⟨some 48, .move (.tmp 0), none⟩, true),
  (⟨some 49, .nilCheck (.tmp 48), none⟩, true),
  (⟨some 50, .fieldAddr 61 (.tmp 49) 0, none⟩, true),
  (⟨some 51, .load 35 (.tmp 50), none⟩, true),
  (⟨some 52, .call { callee := .builtin .len, args := #[.tmp 51], argTypes := #[35] }, none⟩, true),
  (⟨some 53, .binOp .leq 3 (.tmp 47) (.tmp 52) 3, none⟩, true)] (fun a' h' => Q .normal a' h') a h) : AI Try.prog (.raw (.region id rg93_2 true)) Q a h :=
  AI_draw [(0, true), (1, true), (2, true), (3, true), (4, true), (5, true), (6, true), (7, true), (8, true), (9, true)] m (by kernel_rfl) (by kernel_rfl) (by kernel_rfl) H

/-- (*spec.l1Cur).pick -/
def c73 : IC :=
  (.seq
  (.reg [
    ⟨some 4, .assign (.const (.int .i64 0)), none⟩])
  (.seq
  (.seq
  (.reg [
    ⟨some 6, .move (.tmp 1), none⟩,
    ⟨some 7, .binOp .leq 3 (.tmp 6) (.const (.int .i64 1)) 3, none⟩])
  (.cond (.tmp 7)
    (.seq
    (.reg [
      ⟨some 4, .assign (.const (.int .i64 0)), none⟩])
    .ret)
    .skip))
  (.seq
  (.reg [
    ⟨some 8, .move (.tmp 0), none⟩,
    ⟨some 9, .call { callee := .value (.func 93), args := #[.tmp 8], argTypes := #[58] }, none⟩,
    ⟨some 5, .assign (.tmp 9), none⟩])
  (.seq
  (.seq
  (.reg [
    ⟨some 10, .move (.tmp 1), none⟩,
    ⟨some 11, .binOp .gtr 3 (.tmp 10) (.const (.int .i64 200)) 3, none⟩])
  (.cond (.tmp 11)
    (.reg [
      ⟨some 12, .move (.tmp 5), none⟩,
      ⟨some 13, .binOp .mul 3 (.tmp 12) (.const (.int .i64 256)) 3, none⟩,
      ⟨some 14, .move (.tmp 0), none⟩,
      ⟨some 15, .call { callee := .value (.func 93), args := #[.tmp 14], argTypes := #[58] }, none⟩,
      ⟨some 16, .binOp .add 3 (.tmp 13) (.tmp 15) 3, none⟩,
      ⟨some 5, .assign (.tmp 16), none⟩])
    .skip))
  (.seq
  (.reg [
    ⟨some 17, .move (.tmp 5), none⟩,
    ⟨some 18, .move (.tmp 1), none⟩,
    ⟨some 19, .binOp .rem 3 (.tmp 17) (.tmp 18) 3, none⟩,
    ⟨some 4, .assign (.tmp 19), none⟩])
  .ret)))))
theorem hd73 : Try.f73.body.map dec = some c73 := by kernel_rfl
theorem e73 {R : AV → AH → Prop} {h : AH} (x0 x1 : AV) (H : h.wf → AI Try.prog c73 (RetQ Try.prog [.tmp 4] R) [x0, x1, un, un, un, un, un, un, un, un, un, un, un, un, un, un, un, un, un, un] h) : AC Try.prog 73 [x0, x1] h R :=
  AC_of' (rs := [.tmp 4]) Try.func73 (by kernel_rfl) hd73 Try.ntmps73 rfl H

/-- (*spec.l1Cur).among -/
def c74 : IC :=
  (.seq
  (.reg [
    ⟨some 4, .assign (.const (.int .i64 0)), none⟩])
  (.seq
  (.reg [
    ⟨some 5, .move (.tmp 1), none⟩,
    ⟨some 6, .move (.tmp 0), none⟩,
    ⟨some 7, .move (.tmp 1), none⟩,
    ⟨some 8, .call { callee := .builtin .len, args := #[.tmp 7], argTypes := #[22] }, none⟩,
    ⟨some 9, .call { callee := .value (.func 73), args := #[.tmp 6, .tmp 8], argTypes := #[58, 3] }, none⟩,
    ⟨some 10, .indexAddr 22 (.tmp 5) (.tmp 9), none⟩,
    ⟨some 11, .load 3 (.tmp 10), none⟩,
    ⟨some 4, .assign (.tmp 11), none⟩])
  .ret))
theorem hd74 : Try.f74.body.map dec = some c74 := by kernel_rfl
theorem e74 {R : AV → AH → Prop} {h : AH} (x0 x1 : AV) (H : h.wf → AI Try.prog c74 (RetQ Try.prog [.tmp 4] R) [x0, x1, un, un, un, un, un, un, un, un, un, un] h) : AC Try.prog 74 [x0, x1] h R :=
  AC_of' (rs := [.tmp 4]) Try.func74 (by kernel_rfl) hd74 Try.ntmps74 rfl H

/-- spec.DrawStarEnds -/
def c54 : IC :=
  (.seq
  (.reg [
    ⟨some 2, .assign (.const (.int .i64 0)), none⟩])
  (.seq
  (.reg [
    ⟨some 4, .move (.tmp 0), none⟩,
    ⟨some 5, .build 61 #[(0, .tmp 4)], none⟩,
    ⟨some 6, .box 61 (.tmp 5), none⟩,
    ⟨some 3, .assign (.tmp 6), none⟩])
  (.seq
  (.reg [
    ⟨some 7, .move (.tmp 3), none⟩,
    ⟨some 8, .buildSlice 22 9 #[(0, .const (.int .i64 0)), (1, .const (.int .i64 1)), (2, .const (.int .i64 2)), (3, .const (.int .i64 3)), (4, .const (.int .i64 4)), (5, .const (.int .i64 5)), (6, .const (.int .i64 6)), (7, .const (.int .i64 7)), (8, .const (.int .i64 (-1)))], none⟩,
    ⟨some 9, .call { callee := .value (.func 74), args := #[.tmp 7, .tmp 8], argTypes := #[58, 22] }, none⟩,
    ⟨some 2, .assign (.tmp 9), none⟩])
  .ret)))
theorem hd54 : Try.f54.body.map dec = some c54 := by kernel_rfl
theorem e54 {R : AV → AH → Prop} {h : AH} (x0 : AV) (H : h.wf → AI Try.prog c54 (RetQ Try.prog [.tmp 2] R) [x0, un, un, un, un, un, un, un, un, un] h) : AC Try.prog 54 [x0] h R :=
  AC_of' (rs := [.tmp 2]) Try.func54 (by kernel_rfl) hd54 Try.ntmps54 rfl H

/-- laws.numberOf -/
def c55 : IC :=
  (.seq
  (.reg [
    ⟨some 2, .assign (.const (.int .i64 0)), none⟩])
  (.seq
  (.reg [
    ⟨some 3, .assign (.const (.int .i64 0)), none⟩])
  (.seq
  (.seq
  (.reg [
    ⟨some 6, .move (.tmp 0), none⟩,
    ⟨some 7, .call { callee := .builtin .len, args := #[.tmp 6], argTypes := #[35] }, none⟩,
    ⟨some 8, .move (.const (.int .i64 0)), none⟩])
  (.block 0
  (.loop
    (.seq
    (.reg [
      ⟨some 9, .binOp .lss 3 (.tmp 8) (.tmp 7) 3, none⟩])
    (.seq
    (.cond (.tmp 9)
      .skip
      (.exit 0))
    (.seq
    (.block 1
    (.seq
    (.reg [
      ⟨some 10, .indexAddr 35 (.tmp 6) (.tmp 8), none⟩,
      ⟨some 11, .load 5 (.tmp 10), none⟩,
      ⟨some 5, .assign (.tmp 11), none⟩])
    (.reg [
      ⟨some 12, .move (.tmp 3), none⟩,
      ⟨some 13, .binOp .mul 3 (.const (.int .i64 31)) (.tmp 12) 3, none⟩,
      ⟨some 14, .move (.tmp 5), none⟩,
      ⟨some 15, .convert 5 3 (.tmp 14), none⟩,
      ⟨some 16, .binOp .add 3 (.tmp 13) (.tmp 15) 3, none⟩,
      ⟨some 17, .binOp .rem 3 (.tmp 16) (.const (.int .i64 1000003)) 3, none⟩,
      ⟨some 3, .assign (.tmp 17), none⟩])))
    (.reg [
      ⟨some 18, .binOp .add 3 (.tmp 8) (.const (.int .i64 1)) 3, none⟩,
      ⟨some 8, .move (.tmp 18), none⟩])))))))
  (.seq
  (.reg [
    ⟨some 19, .move (.tmp 3), none⟩,
    ⟨some 2, .assign (.tmp 19), none⟩])
  .ret))))
theorem hd55 : Try.f55.body.map dec = some c55 := by kernel_rfl
theorem e55 {R : AV → AH → Prop} {h : AH} (x0 : AV) (H : h.wf → AI Try.prog c55 (RetQ Try.prog [.tmp 2] R) [x0, un, un, un, un, un, un, un, un, un, un, un, un, un, un, un, un, un, un, un] h) : AC Try.prog 55 [x0] h R :=
  AC_of' (rs := [.tmp 2]) Try.func55 (by kernel_rfl) hd55 Try.ntmps55 rfl H

noncomputable def rg14_0 : Array Oper := rawAt Try.f14 0
-- NO ORDER
/-- laws.FnStarEnds -/
noncomputable def c14 : IC :=
  (.seq
  (.reg [
    ⟨some 4, .assign (.const (.bool false)), none⟩])
  (.seq
  (.seq
  (.reg [
    ⟨some 13, .move (.tmp 0), none⟩,
    ⟨some 14, .move (.tmp 1), none⟩,
    ⟨some 15, .call { callee := .value (.func 31), args := #[.tmp 13, .tmp 14], argTypes := #[35, 35] }, none⟩])
  (.cond (.tmp 15)
    (.seq
    (.reg [
      ⟨some 4, .assign (.const (.bool true)), none⟩])
    .ret)
    .skip))
  (.seq
  (.reg [
    ⟨some 16, .move (.tmp 0), none⟩,
    ⟨some 17, .call { callee := .value (.func 54), args := #[.tmp 16], argTypes := #[35] }, none⟩,
    ⟨some 5, .assign (.tmp 17), none⟩])
  (.seq
  (.reg [
    ⟨some 19, .move (.tmp 5), none⟩,
    ⟨some 20, .call { callee := .value (.func 53), args := #[.tmp 19], argTypes := #[3] }, none⟩,
    ⟨some 18, .move (.tmp 20), none⟩,
    ⟨some 21, .extract (.tmp 18) 0, none⟩,
    ⟨some 22, .extract (.tmp 18) 1, none⟩,
    ⟨some 6, .assign (.tmp 21), none⟩,
    ⟨some 7, .assign (.tmp 22), none⟩])
  (.seq
  (.reg [
    ⟨some 24, .move (.tmp 5), none⟩,
    ⟨some 25, .call { callee := .value (.func 52), args := #[.tmp 24], argTypes := #[3] }, none⟩,
    ⟨some 23, .move (.tmp 25), none⟩,
    ⟨some 26, .extract (.tmp 23) 0, none⟩,
    ⟨some 27, .extract (.tmp 23) 1, none⟩,
    ⟨some 8, .assign (.tmp 26), none⟩,
    ⟨some 9, .assign (.tmp 27), none⟩])
  (.seq
  (.seq
  (.reg [
    ⟨some 28, .move (.tmp 7), none⟩,
    ⟨some 29, .move (.tmp 9), none⟩,
    ⟨some 30, .binOp .neq 4 (.tmp 28) (.tmp 29) 4, none⟩,
    ⟨some 31, .move (.tmp 30), none⟩,
    ⟨some 32, .move (.tmp 6), some (31, false)⟩,
    ⟨some 33, .move (.tmp 8), some (31, false)⟩,
    ⟨some 34, .call { callee := .value (.func 38), args := #[.tmp 32, .tmp 33], argTypes := #[22, 22] }, some (31, false)⟩,
    ⟨some 35, .unOp .not 4 (.tmp 34), some (31, false)⟩,
    ⟨some 36, .pick (.tmp 31) (.const (.bool true)) (.tmp 35), none⟩])
  (.cond (.tmp 36)
    (.seq
    (.reg [
      ⟨some 4, .assign (.const (.bool false)), none⟩])
    .ret)
    .skip))
  (.seq
  (.seq
  (.reg [
    ⟨some 37, .move (.tmp 7), none⟩,
    ⟨some 38, .unOp .not 4 (.tmp 37), none⟩])
  (.cond (.tmp 38)
    (.seq
    (.reg [
      ⟨some 4, .assign (.const (.bool true)), none⟩])
    .ret)
    .skip))
  (.seq
  (.reg [
    ⟨some 39, .move (.tmp 1), none⟩,
    ⟨some 40, .call { callee := .value (.func 55), args := #[.tmp 39], argTypes := #[35] }, none⟩,
    ⟨some 41, .binOp .rem 3 (.tmp 40) (.const (.int .i64 100)) 3, none⟩,
    ⟨some 42, .binOp .add 3 (.const (.int .i64 1)) (.tmp 41) 3, none⟩,
    ⟨some 10, .assign (.tmp 42), none⟩])
  (.seq
  (.reg [
    ⟨some 44, .move (.tmp 10), none⟩,
    ⟨some 45, .move (.tmp 5), none⟩,
    ⟨some 46, .call { callee := .value (.func 44), args := #[.tmp 44, .tmp 45], argTypes := #[3, 3] }, none⟩,
    ⟨some 43, .move (.tmp 46), none⟩,
    ⟨some 47, .extract (.tmp 43) 0, none⟩,
    ⟨some 48, .extract (.tmp 43) 1, none⟩,
    ⟨some 11, .assign (.tmp 47), none⟩,
    ⟨some 12, .assign (.tmp 48), none⟩])
  (.seq
  (.seq
  (.reg [
    ⟨some 49, .move (.tmp 12), none⟩,
    ⟨some 50, .unOp .not 4 (.tmp 49), none⟩,
    ⟨some 51, .move (.tmp 50), none⟩,
    ⟨some 52, .move (.tmp 6), some (51, false)⟩,
    ⟨some 53, .move (.tmp 10), some (51, false)⟩,
    ⟨some 54, .call { callee := .value (.func 35), args := #[.tmp 52, .tmp 53], argTypes := #[22, 3] }, some (51, false)⟩,
    ⟨some 55, .move (.tmp 11), some (51, false)⟩,
    ⟨some 56, .binOp .gtr 3 (.tmp 55) (.const (.int .i64 0)) 3, some (51, false)⟩,
    ⟨some 57, .binOp .neq 4 (.tmp 54) (.tmp 56) 4, some (51, false)⟩,
    ⟨some 58, .pick (.tmp 51) (.const (.bool true)) (.tmp 57), none⟩])
  (.cond (.tmp 58)
    (.seq
    (.reg [
      ⟨some 4, .assign (.const (.bool false)), none⟩])
    .ret)
    .skip))
  (.seq
  (.raw (.region 14 rg14_0 true))
  .ret)))))))))))
theorem hd14 : Try.f14.body.map dec = some c14 := by kernel_rfl
theorem e14 {R : AV → AH → Prop} {h : AH} (x0 x1 : AV) (H : h.wf → AI Try.prog c14 (RetQ Try.prog [.tmp 4] R) [x0, x1, un, un, un, un, un, un, un, un, un, un, un, un, un, un, un, un, un, un, un, un, un, un, un, un, un, un, un, un, un, un, un, un, un, un, un, un, un, un, un, un, un, un, un, un, un, un, un, un, un, un, un, un, un, un, un, un, un, un, un, un, un, un, un, un, un, un, un, un, un, un, un, un, un, un, un, un, un, un, un] h) : AC Try.prog 14 [x0, x1] h R :=
  AC_of' (rs := [.tmp 4]) Try.func14 (by kernel_rfl) hd14 Try.ntmps14 rfl H
theorem dz14_0 {h0 : AH} {L : List It} {Q : Exit → List AV → List It → Prop} {a : List AV} {id : Nat} (H : LX Try.prog ⟨[], []⟩ h0 L L (.c (⟨some 59, .move (.tmp 6), none⟩, .p) <| .c (⟨some 60, .call { callee := .builtin .len, args := #[.tmp 59], argTypes := #[22] }, none⟩, .p) <| .c (⟨some 61, .binOp .gtr 3 (.tmp 60) (.const (.int .i64 0)) 3, none⟩, .p) <| .c (⟨some 62, .move (.tmp 61), none⟩, .p) <| .c (⟨some 63, .move (.tmp 6), some (62, true)⟩, .p) <| .c (⟨some 64, .indexAddr 22 (.tmp 63) (.const (.int .i64 0)), some (62, true)⟩, .p) <| .c (⟨some 65, .load 3 (.tmp 64), some (62, true)⟩, .l) <| .c (⟨some 66, .move (.tmp 5), some (62, true)⟩, .p) <| .c (⟨some 67, .binOp .add 3 (.tmp 66) (.const (.int .i64 1)) 3, some (62, true)⟩, .p) <| .c (⟨some 68, .binOp .eql 3 (.tmp 65) (.tmp 67) 3, some (62, true)⟩, .p) <| .c (⟨some 69, .pick (.tmp 62) (.tmp 68) (.const (.bool false)), none⟩, .p) <| .c (⟨some 70, .move (.tmp 69), none⟩, .p) <| .c (⟨some 71, .move (.tmp 6), some (70, true)⟩, .p) <| .c (⟨some 72, .move (.tmp 6), some (70, true)⟩, .p) <| .c (⟨some 73, .call { callee := .builtin .len, args := #[.tmp 72], argTypes := #[22] }, some (70, true)⟩, .p) <| .c (⟨some 74, .binOp .sub 3 (.tmp 73) (.const (.int .i64 1)) 3, some (70, true)⟩, .p) <| .c (⟨some 75, .indexAddr 22 (.tmp 71) (.tmp 74), some (70, true)⟩, .p) <| .c (⟨some 76, .load 3 (.tmp 75), some (70, true)⟩, .l) <| .c (⟨some 77, .move (.tmp 5), some (70, true)⟩, .p) <| .c (⟨some 78, .binOp .shl 3 (.const (.int .i64 1)) (.tmp 77) 3, some (70, true)⟩, .p) <| .c (⟨some 79, .binOp .eql 3 (.tmp 76) (.tmp 78) 3, some (70, true)⟩, .p) <| .c (⟨some 80, .pick (.tmp 70) (.tmp 79) (.const (.bool false)), none⟩, .p) <| .c (⟨some 4, .assign (.tmp 80), none⟩, .p) <| .n) Q a) : LI Try.prog h0 L (.raw (.region id rg14_0 true)) Q a :=
  LI_draw (.c (0, .p) <| .c (1, .p) <| .c (2, .p) <| .c (3, .p) <| .c (4, .p) <| .c (5, .p) <| .c (6, .l) <| .c (7, .p) <| .c (8, .p) <| .c (9, .p) <| .c (10, .p) <| .c (11, .p) <| .c (12, .p) <| .c (13, .p) <| .c (14, .p) <| .c (15, .p) <| .c (16, .p) <| .c (17, .l) <| .c (18, .p) <| .c (19, .p) <| .c (20, .p) <| .c (21, .p) <| .c (22, .p) <| .n) [] (by kernel_rfl) (by kernel_rfl) (by kernel_rfl) H

end Go.Proofs.Ytlgjakoeogpjlaa
