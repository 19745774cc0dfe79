/- The short forms of the functions' code, and facts on types. -/
import Derived.Test.YtlgjakoeogpjlaaProg
import Derived.Test.YtlgjakoeogpjlaaD3
namespace Go.Proofs.Ytlgjakoeogpjlaa
open Go.AL
set_option linter.unusedVariables false
theorem sz0 : szT Try.prog 0 = some 1 := by kernel_rfl
theorem by0 : byT Try.prog 0 = some 0 := by kernel_rfl
theorem ag0 : aggT Try.prog 0 = some false := by kernel_rfl
instance jsz0 : Tsz Try.prog 0 1 := ⟨sz0⟩
instance jby0 : Tby Try.prog 0 0 := ⟨by0⟩
instance jag0 : Tag Try.prog 0 false := ⟨ag0⟩
theorem sz1 : szT Try.prog 1 = some 1 := by kernel_rfl
theorem by1 : byT Try.prog 1 = some 8 := by kernel_rfl
theorem ag1 : aggT Try.prog 1 = some false := by kernel_rfl
instance jsz1 : Tsz Try.prog 1 1 := ⟨sz1⟩
instance jby1 : Tby Try.prog 1 8 := ⟨by1⟩
instance jag1 : Tag Try.prog 1 false := ⟨ag1⟩
theorem ze1 : zeroA Try.prog 1 = some .nf := by kernel_rfl
instance jze1 : Tze Try.prog 1 (.nf) := ⟨ze1⟩
theorem sz2 : szT Try.prog 2 = some 1 := by kernel_rfl
theorem by2 : byT Try.prog 2 = some 8 := by kernel_rfl
theorem ag2 : aggT Try.prog 2 = some false := by kernel_rfl
instance jsz2 : Tsz Try.prog 2 1 := ⟨sz2⟩
instance jby2 : Tby Try.prog 2 8 := ⟨by2⟩
instance jag2 : Tag Try.prog 2 false := ⟨ag2⟩
instance jik2 : Tik Try.prog 2 .i64 := ⟨Try.underlying2⟩
theorem ze2 : zeroA Try.prog 2 = some (.i .i64 0) := by kernel_rfl
instance jze2 : Tze Try.prog 2 (.i .i64 0) := ⟨ze2⟩
theorem sz3 : szT Try.prog 3 = some 1 := by kernel_rfl
theorem by3 : byT Try.prog 3 = some 8 := by kernel_rfl
theorem ag3 : aggT Try.prog 3 = some false := by kernel_rfl
instance jsz3 : Tsz Try.prog 3 1 := ⟨sz3⟩
instance jby3 : Tby Try.prog 3 8 := ⟨by3⟩
instance jag3 : Tag Try.prog 3 false := ⟨ag3⟩
instance jik3 : Tik Try.prog 3 .i64 := ⟨Try.underlying3⟩
theorem ze3 : zeroA Try.prog 3 = some (.i .i64 0) := by kernel_rfl
instance jze3 : Tze Try.prog 3 (.i .i64 0) := ⟨ze3⟩
theorem sz4 : szT Try.prog 4 = some 1 := by kernel_rfl
theorem by4 : byT Try.prog 4 = some 1 := by kernel_rfl
theorem ag4 : aggT Try.prog 4 = some false := by kernel_rfl
instance jsz4 : Tsz Try.prog 4 1 := ⟨sz4⟩
instance jby4 : Tby Try.prog 4 1 := ⟨by4⟩
instance jag4 : Tag Try.prog 4 false := ⟨ag4⟩
instance jbo4 : Tbo Try.prog 4 := ⟨Try.underlying4⟩
theorem ze4 : zeroA Try.prog 4 = some (.b false) := by kernel_rfl
instance jze4 : Tze Try.prog 4 (.b false) := ⟨ze4⟩
theorem sz5 : szT Try.prog 5 = some 1 := by kernel_rfl
theorem by5 : byT Try.prog 5 = some 1 := by kernel_rfl
theorem ag5 : aggT Try.prog 5 = some false := by kernel_rfl
instance jsz5 : Tsz Try.prog 5 1 := ⟨sz5⟩
instance jby5 : Tby Try.prog 5 1 := ⟨by5⟩
instance jag5 : Tag Try.prog 5 false := ⟨ag5⟩
instance jik5 : Tik Try.prog 5 .u8 := ⟨Try.underlying5⟩
theorem ze5 : zeroA Try.prog 5 = some (.i .u8 0) := by kernel_rfl
instance jze5 : Tze Try.prog 5 (.i .u8 0) := ⟨ze5⟩
theorem sz9 : szT Try.prog 9 = some 1 := by kernel_rfl
theorem by9 : byT Try.prog 9 = some 16 := by kernel_rfl
theorem ag9 : aggT Try.prog 9 = some false := by kernel_rfl
instance jsz9 : Tsz Try.prog 9 1 := ⟨sz9⟩
instance jby9 : Tby Try.prog 9 16 := ⟨by9⟩
instance jag9 : Tag Try.prog 9 false := ⟨ag9⟩
instance jst9 : Tst Try.prog 9 := ⟨Try.underlying9⟩
theorem ze9 : zeroA Try.prog 9 = some (.s ⟨#[]⟩) := by kernel_rfl
instance jze9 : Tze Try.prog 9 (.s ⟨#[]⟩) := ⟨ze9⟩
theorem sz22 : szT Try.prog 22 = some 1 := by kernel_rfl
theorem by22 : byT Try.prog 22 = some 24 := by kernel_rfl
theorem ag22 : aggT Try.prog 22 = some false := by kernel_rfl
instance jsz22 : Tsz Try.prog 22 1 := ⟨sz22⟩
instance jby22 : Tby Try.prog 22 24 := ⟨by22⟩
instance jag22 : Tag Try.prog 22 false := ⟨ag22⟩
instance jsl22 : Tsl Try.prog 22 3 := ⟨Try.underlying22⟩
theorem ze22 : zeroA Try.prog 22 = some .ns := by kernel_rfl
instance jze22 : Tze Try.prog 22 (.ns) := ⟨ze22⟩
theorem sz30 : szT Try.prog 30 = some 1 := by kernel_rfl
theorem by30 : byT Try.prog 30 = some 24 := by kernel_rfl
theorem ag30 : aggT Try.prog 30 = some false := by kernel_rfl
instance jsz30 : Tsz Try.prog 30 1 := ⟨sz30⟩
instance jby30 : Tby Try.prog 30 24 := ⟨by30⟩
instance jag30 : Tag Try.prog 30 false := ⟨ag30⟩
instance jsl30 : Tsl Try.prog 30 22 := ⟨Try.underlying30⟩
theorem ze30 : zeroA Try.prog 30 = some .ns := by kernel_rfl
instance jze30 : Tze Try.prog 30 (.ns) := ⟨ze30⟩
theorem sz35 : szT Try.prog 35 = some 1 := by kernel_rfl
theorem by35 : byT Try.prog 35 = some 24 := by kernel_rfl
theorem ag35 : aggT Try.prog 35 = some false := by kernel_rfl
instance jsz35 : Tsz Try.prog 35 1 := ⟨sz35⟩
instance jby35 : Tby Try.prog 35 24 := ⟨by35⟩
instance jag35 : Tag Try.prog 35 false := ⟨ag35⟩
instance jsl35 : Tsl Try.prog 35 5 := ⟨Try.underlying35⟩
theorem ze35 : zeroA Try.prog 35 = some .ns := by kernel_rfl
instance jze35 : Tze Try.prog 35 (.ns) := ⟨ze35⟩
theorem sz38 : szT Try.prog 38 = some 1 := by kernel_rfl
theorem by38 : byT Try.prog 38 = some 8 := by kernel_rfl
theorem ag38 : aggT Try.prog 38 = some false := by kernel_rfl
instance jsz38 : Tsz Try.prog 38 1 := ⟨sz38⟩
instance jby38 : Tby Try.prog 38 8 := ⟨by38⟩
instance jag38 : Tag Try.prog 38 false := ⟨ag38⟩
theorem ze38 : zeroA Try.prog 38 = some .nf := by kernel_rfl
instance jze38 : Tze Try.prog 38 (.nf) := ⟨ze38⟩
theorem sz51 : szT Try.prog 51 = some 1 := by kernel_rfl
theorem by51 : byT Try.prog 51 = some 8 := by kernel_rfl
theorem ag51 : aggT Try.prog 51 = some false := by kernel_rfl
instance jsz51 : Tsz Try.prog 51 1 := ⟨sz51⟩
instance jby51 : Tby Try.prog 51 8 := ⟨by51⟩
instance jag51 : Tag Try.prog 51 false := ⟨ag51⟩
theorem ze51 : zeroA Try.prog 51 = some .nm := by kernel_rfl
instance jze51 : Tze Try.prog 51 (.nm) := ⟨ze51⟩
theorem sz58 : szT Try.prog 58 = some 1 := by kernel_rfl
theorem by58 : byT Try.prog 58 = some 8 := by kernel_rfl
theorem ag58 : aggT Try.prog 58 = some false := by kernel_rfl
instance jsz58 : Tsz Try.prog 58 1 := ⟨sz58⟩
instance jby58 : Tby Try.prog 58 8 := ⟨by58⟩
instance jag58 : Tag Try.prog 58 false := ⟨ag58⟩
theorem ze58 : zeroA Try.prog 58 = some .np := by kernel_rfl
instance jze58 : Tze Try.prog 58 (.np) := ⟨ze58⟩
theorem sz59 : szT Try.prog 59 = some 1 := by kernel_rfl
theorem by59 : byT Try.prog 59 = some 8 := by kernel_rfl
theorem ag59 : aggT Try.prog 59 = some false := by kernel_rfl
instance jsz59 : Tsz Try.prog 59 1 := ⟨sz59⟩
instance jby59 : Tby Try.prog 59 8 := ⟨by59⟩
instance jag59 : Tag Try.prog 59 false := ⟨ag59⟩
instance jik59 : Tik Try.prog 59 .u64 := ⟨Try.underlying59⟩
theorem ze59 : zeroA Try.prog 59 = some (.i .u64 0) := by kernel_rfl
instance jze59 : Tze Try.prog 59 (.i .u64 0) := ⟨ze59⟩
theorem sz61 : szT Try.prog 61 = some 3 := by kernel_rfl
theorem by61 : byT Try.prog 61 = some 40 := by kernel_rfl
theorem ag61 : aggT Try.prog 61 = some true := by kernel_rfl
instance jsz61 : Tsz Try.prog 61 3 := ⟨sz61⟩
instance jby61 : Tby Try.prog 61 40 := ⟨by61⟩
instance jag61 : Tag Try.prog 61 true := ⟨ag61⟩
theorem ze61 : zeroA Try.prog 61 = some (.agg [.ns, (.i .i64 0), (.i .u64 0)]) := by kernel_rfl
instance jze61 : Tze Try.prog 61 (.agg [.ns, (.i .i64 0), (.i .u64 0)]) := ⟨ze61⟩
theorem fl61_0 : fldA Try.prog 61 0 = some (0, 1, false) := by kernel_rfl
instance jfl61_0 : Tfl Try.prog 61 0 0 1 false := ⟨fl61_0⟩
theorem fl61_1 : fldA Try.prog 61 1 = some (1, 1, false) := by kernel_rfl
instance jfl61_1 : Tfl Try.prog 61 1 1 1 false := ⟨fl61_1⟩
theorem fl61_2 : fldA Try.prog 61 2 = some (2, 1, false) := by kernel_rfl
instance jfl61_2 : Tfl Try.prog 61 2 2 1 false := ⟨fl61_2⟩
theorem pa61 : plA Try.prog 61 = some [(0, 1), (1, 1), (2, 1)] := by kernel_rfl
instance jpl61 : Tpl Try.prog 61 [(0, 1), (1, 1), (2, 1)] := ⟨pa61⟩
theorem sz67 : szT Try.prog 67 = some 1 := by kernel_rfl
theorem by67 : byT Try.prog 67 = some 8 := by kernel_rfl
theorem ag67 : aggT Try.prog 67 = some false := by kernel_rfl
instance jsz67 : Tsz Try.prog 67 1 := ⟨sz67⟩
instance jby67 : Tby Try.prog 67 8 := ⟨by67⟩
instance jag67 : Tag Try.prog 67 false := ⟨ag67⟩
instance jik67 : Tik Try.prog 67 .u64 := ⟨Try.underlying67⟩
theorem ze67 : zeroA Try.prog 67 = some (.i .u64 0) := by kernel_rfl
instance jze67 : Tze Try.prog 67 (.i .u64 0) := ⟨ze67⟩
theorem sz75 : szT Try.prog 75 = some 1 := by kernel_rfl
theorem by75 : byT Try.prog 75 = some 4 := by kernel_rfl
theorem ag75 : aggT Try.prog 75 = some false := by kernel_rfl
instance jsz75 : Tsz Try.prog 75 1 := ⟨sz75⟩
instance jby75 : Tby Try.prog 75 4 := ⟨by75⟩
instance jag75 : Tag Try.prog 75 false := ⟨ag75⟩
instance jik75 : Tik Try.prog 75 .u32 := ⟨Try.underlying75⟩
theorem ze75 : zeroA Try.prog 75 = some (.i .u32 0) := by kernel_rfl
instance jze75 : Tze Try.prog 75 (.i .u32 0) := ⟨ze75⟩

/-- spec.l1In -/
def c62 : IC :=
  (.seq
  (.reg [
    ⟨some 6, .assign (.const (.bool false)), none⟩])
  (.seq
  (.reg [
    ⟨some 7, .move (.tmp 0), none⟩,
    ⟨some 8, .move (.tmp 1), none⟩,
    ⟨some 9, .binOp .geq 3 (.tmp 7) (.tmp 8) 3, none⟩,
    ⟨some 10, .move (.tmp 9), none⟩,
    ⟨some 11, .move (.tmp 0), some (10, true)⟩,
    ⟨some 12, .move (.tmp 2), some (10, true)⟩,
    ⟨some 13, .binOp .leq 3 (.tmp 11) (.tmp 12) 3, some (10, true)⟩,
    ⟨some 14, .pick (.tmp 10) (.tmp 13) (.const (.bool false)), none⟩,
    ⟨some 6, .assign (.tmp 14), none⟩])
  .ret))
theorem hd62 : Try.f62.body.map dec = some c62 := by kernel_rfl
theorem e62 {R : AV → AH → Prop} {h : AH} (x0 x1 x2 : AV) (H : h.wf → AI Try.prog c62 (RetQ Try.prog [.tmp 6] R) [x0, x1, x2, un, un, un, un, un, un, un, un, un, un, un, un] h) : AC Try.prog 62 [x0, x1, x2] h R :=
  AC_of' (rs := [.tmp 6]) Try.func62 (by kernel_rfl) hd62 Try.ntmps62 rfl H

/-- spec.shNumber -/
def c56 : IC :=
  (.seq
  (.reg [
    ⟨some 2, .assign (.const (.bool false)), none⟩])
  (.seq
  (.reg [
    ⟨some 3, .move (.tmp 0), none⟩,
    ⟨some 4, .call { callee := .value (.func 62), args := #[.tmp 3, .const (.int .i64 1), .const (.int .i64 100)], argTypes := #[3, 3, 3] }, none⟩,
    ⟨some 2, .assign (.tmp 4), none⟩])
  .ret))
theorem hd56 : Try.f56.body.map dec = some c56 := by kernel_rfl
theorem e56 {R : AV → AH → Prop} {h : AH} (x0 : AV) (H : h.wf → AI Try.prog c56 (RetQ Try.prog [.tmp 2] R) [x0, un, un, un, un] h) : AC Try.prog 56 [x0] h R :=
  AC_of' (rs := [.tmp 2]) Try.func56 (by kernel_rfl) hd56 Try.ntmps56 rfl H

/-- spec.l1Own -/
def c88 : IC :=
  (.seq
  (.reg [
    ⟨some 2, .assign (.const (.slice none 0 0)), none⟩])
  (.seq
  (.reg [
    ⟨some 3, .buildSlice 22 0 #[], none⟩,
    ⟨some 4, .move (.tmp 0), none⟩,
    ⟨some 5, .call { callee := .builtin .append, args := #[.tmp 3, .tmp 4], argTypes := #[22, 22] }, none⟩,
    ⟨some 2, .assign (.tmp 5), none⟩])
  .ret))
theorem hd88 : Try.f88.body.map dec = some c88 := by kernel_rfl
theorem e88 {R : AV → AH → Prop} {h : AH} (x0 : AV) (H : h.wf → AI Try.prog c88 (RetQ Try.prog [.tmp 2] R) [x0, un, un, un, un, un] h) : AC Try.prog 88 [x0] h R :=
  AC_of' (rs := [.tmp 2]) Try.func88 (by kernel_rfl) hd88 Try.ntmps88 rfl H

/-- spec.shSearch -/
def c58 : IC :=
  (.seq
  (.reg [
    ⟨some 8, .assign (.const (.slice none 0 0)), none⟩])
  (.seq
  (.reg [
    ⟨some 14, .move (.tmp 0), none⟩,
    ⟨some 15, .move (.tmp 0), none⟩,
    ⟨some 16, .call { callee := .builtin .len, args := #[.tmp 15], argTypes := #[22] }, none⟩,
    ⟨some 17, .binOp .sub 3 (.tmp 16) (.const (.int .i64 1)) 3, none⟩,
    ⟨some 18, .indexAddr 22 (.tmp 14) (.tmp 17), none⟩,
    ⟨some 19, .load 3 (.tmp 18), none⟩,
    ⟨some 9, .assign (.tmp 19), none⟩])
  (.seq
  (.seq
  (.reg [
    ⟨some 20, .move (.tmp 2), none⟩,
    ⟨some 21, .binOp .eql 3 (.tmp 20) (.const (.int .i64 0)) 3, none⟩])
  (.cond (.tmp 21)
    (.seq
    (.seq
    (.reg [
      ⟨some 22, .move (.tmp 9), none⟩,
      ⟨some 23, .move (.tmp 1), none⟩,
      ⟨some 24, .binOp .eql 3 (.tmp 22) (.tmp 23) 3, none⟩])
    (.cond (.tmp 24)
      (.seq
      (.reg [
        ⟨some 25, .move (.tmp 0), none⟩,
        ⟨some 26, .call { callee := .value (.func 88), args := #[.tmp 25], argTypes := #[22] }, none⟩,
        ⟨some 27, .buildSlice 30 1 #[(0, .tmp 26)], none⟩,
        ⟨some 8, .assign (.tmp 27), none⟩])
      .ret)
      .skip))
    (.seq
    (.reg [
      ⟨some 8, .assign (.const (.slice none 0 0)), none⟩])
    .ret))
    .skip))
  (.seq
  (.reg [
    ⟨some 10, .assign (.const (.slice none 0 0)), none⟩])
  (.seq
  (.seq
  (.reg [
    ⟨some 28, .move (.tmp 0), none⟩,
    ⟨some 29, .call { callee := .builtin .len, args := #[.tmp 28], argTypes := #[22] }, none⟩,
    ⟨some 30, .move (.const (.int .i64 0)), none⟩])
  (.block 0
  (.loop
    (.seq
    (.reg [
      ⟨some 31, .binOp .lss 3 (.tmp 30) (.tmp 29) 3, none⟩])
    (.seq
    (.cond (.tmp 31)
      .skip
      (.exit 0))
    (.seq
    (.block 1
    (.seq
    (.reg [
      ⟨some 32, .indexAddr 22 (.tmp 28) (.tmp 30), none⟩,
      ⟨some 33, .load 3 (.tmp 32), none⟩,
      ⟨some 12, .assign (.tmp 33), none⟩])
    (.seq
    (.reg [
      ⟨some 34, .move (.tmp 9), none⟩,
      ⟨some 35, .move (.tmp 12), none⟩,
      ⟨some 36, .binOp .add 3 (.tmp 34) (.tmp 35) 3, none⟩,
      ⟨some 13, .assign (.tmp 36), none⟩])
    (.seq
    (.seq
    (.reg [
      ⟨some 37, .move (.tmp 13), none⟩,
      ⟨some 38, .move (.tmp 1), none⟩,
      ⟨some 39, .binOp .gtr 3 (.tmp 37) (.tmp 38) 3, none⟩,
      ⟨some 40, .move (.tmp 39), none⟩,
      ⟨some 41, .move (.tmp 13), some (40, false)⟩,
      ⟨some 42, .move (.tmp 2), some (40, false)⟩,
      ⟨some 43, .binOp .sub 3 (.tmp 42) (.const (.int .i64 1)) 3, some (40, false)⟩,
      ⟨some 44, .binOp .shl 3 (.tmp 41) (.tmp 43) 3, some (40, false)⟩,
      ⟨some 45, .move (.tmp 1), some (40, false)⟩,
      ⟨some 46, .binOp .lss 3 (.tmp 44) (.tmp 45) 3, some (40, false)⟩,
      ⟨some 47, .pick (.tmp 40) (.const (.bool true)) (.tmp 46), none⟩,
      ⟨some 48, .move (.tmp 47), none⟩,
      ⟨some 49, .move (.tmp 10), some (48, false)⟩,
      ⟨some 50, .call { callee := .builtin .len, args := #[.tmp 49], argTypes := #[30] }, some (48, false)⟩,
      ⟨some 51, .move (.tmp 3), some (48, false)⟩,
      ⟨some 52, .binOp .geq 3 (.tmp 50) (.tmp 51) 3, some (48, false)⟩,
      ⟨some 53, .pick (.tmp 48) (.const (.bool true)) (.tmp 52), none⟩])
    (.cond (.tmp 53)
      (.exit 1)
      .skip))
    (.reg [
      ⟨some 54, .move (.tmp 10), none⟩,
      ⟨some 55, .move (.tmp 0), none⟩,
      ⟨some 56, .call { callee := .value (.func 88), args := #[.tmp 55], argTypes := #[22] }, none⟩,
      ⟨some 57, .move (.tmp 13), none⟩,
      ⟨some 58, .buildSlice 22 1 #[(0, .tmp 57)], none⟩,
      ⟨some 59, .call { callee := .builtin .append, args := #[.tmp 56, .tmp 58], argTypes := #[22, 22] }, none⟩,
      ⟨some 60, .move (.tmp 1), none⟩,
      ⟨some 61, .move (.tmp 2), none⟩,
      ⟨some 62, .binOp .sub 3 (.tmp 61) (.const (.int .i64 1)) 3, none⟩,
      ⟨some 63, .move (.tmp 3), none⟩,
      ⟨some 64, .move (.tmp 10), none⟩,
      ⟨some 65, .call { callee := .builtin .len, args := #[.tmp 64], argTypes := #[30] }, none⟩,
      ⟨some 66, .binOp .sub 3 (.tmp 63) (.tmp 65) 3, none⟩,
      ⟨some 67, .call { callee := .value (.func 58), args := #[.tmp 59, .tmp 60, .tmp 62, .tmp 66], argTypes := #[22, 3, 3, 3] }, none⟩,
      ⟨some 68, .call { callee := .builtin .append, args := #[.tmp 54, .tmp 67], argTypes := #[30, 30] }, none⟩,
      ⟨some 10, .assign (.tmp 68), none⟩])))))
    (.reg [
      ⟨some 69, .binOp .add 3 (.tmp 30) (.const (.int .i64 1)) 3, none⟩,
      ⟨some 30, .move (.tmp 69), none⟩])))))))
  (.seq
  (.reg [
    ⟨some 70, .move (.tmp 10), none⟩,
    ⟨some 8, .assign (.tmp 70), none⟩])
  .ret))))))
theorem hd58 : Try.f58.body.map dec = some c58 := by kernel_rfl
theorem e58 {R : AV → AH → Prop} {h : AH} (x0 x1 x2 x3 : AV) (H : h.wf → AI Try.prog c58 (RetQ Try.prog [.tmp 8] R) [x0, x1, x2, x3, un, un, un, un, un, un, un, un, un, un, un, un, un, un, un, un, un, un, un, un, un, un, un, un, un, un, un, un, un, un, un, un, un, un, un, un, un, un, un, un, un, un, un, un, un, un, un, un, un, un, un, un, un, un, un, un, un, un, un, un, un, un, un, un, un, un, un] h) : AC Try.prog 58 [x0, x1, x2, x3] h R :=
  AC_of' (rs := [.tmp 8]) Try.func58 (by kernel_rfl) hd58 Try.ntmps58 rfl H

/-- spec.shLength -/
def c67 : IC :=
  (.seq
  (.reg [
    ⟨some 2, .assign (.const (.int .i64 0)), none⟩])
  (.seq
  (.reg [
    ⟨some 3, .assign (.const (.int .i64 0)), none⟩])
  (.block 0
  (.loop
    (.seq
    (.block 1
    (.seq
    (.reg [
      ⟨some 6, .buildSlice 22 1 #[(0, .const (.int .i64 1))], none⟩,
      ⟨some 7, .move (.tmp 0), none⟩,
      ⟨some 8, .move (.tmp 3), none⟩,
      ⟨some 9, .call { callee := .value (.func 58), args := #[.tmp 6, .tmp 7, .tmp 8, .const (.int .i64 1)], argTypes := #[22, 3, 3, 3] }, none⟩,
      ⟨some 10, .call { callee := .builtin .len, args := #[.tmp 9], argTypes := #[30] }, none⟩,
      ⟨some 11, .binOp .gtr 3 (.tmp 10) (.const (.int .i64 0)) 3, none⟩])
    (.cond (.tmp 11)
      (.seq
      (.reg [
        ⟨some 12, .move (.tmp 3), none⟩,
        ⟨some 2, .assign (.tmp 12), none⟩])
      .ret)
      .skip)))
    (.reg [
      ⟨some 4, .move (.tmp 3), none⟩,
      ⟨some 5, .binOp .add 3 (.tmp 4) (.const (.int .i64 1)) 3, none⟩,
      ⟨some 3, .assign (.tmp 5), none⟩]))))))
theorem hd67 : Try.f67.body.map dec = some c67 := by kernel_rfl
theorem e67 {R : AV → AH → Prop} {h : AH} (x0 : AV) (H : h.wf → AI Try.prog c67 (RetQ Try.prog [.tmp 2] R) [x0, un, un, un, un, un, un, un, un, un, un, un, un] h) : AC Try.prog 67 [x0] h R :=
  AC_of' (rs := [.tmp 2]) Try.func67 (by kernel_rfl) hd67 Try.ntmps67 rfl H

/-- spec.ShortestStar -/
def c22 : IC :=
  (.seq
  (.reg [
    ⟨some 2, .assign (.const (.slice none 0 0)), none⟩,
    ⟨some 3, .assign (.const (.bool false)), none⟩])
  (.seq
  (.seq
  (.reg [
    ⟨some 4, .move (.tmp 0), none⟩,
    ⟨some 5, .call { callee := .value (.func 56), args := #[.tmp 4], argTypes := #[3] }, none⟩,
    ⟨some 6, .unOp .not 4 (.tmp 5), none⟩])
  (.cond (.tmp 6)
    (.seq
    (.reg [
      ⟨some 2, .assign (.const (.slice none 0 0)), none⟩,
      ⟨some 3, .assign (.const (.bool false)), none⟩])
    .ret)
    .skip))
  (.seq
  (.reg [
    ⟨some 7, .buildSlice 22 1 #[(0, .const (.int .i64 1))], none⟩,
    ⟨some 8, .move (.tmp 0), none⟩,
    ⟨some 9, .move (.tmp 0), none⟩,
    ⟨some 10, .call { callee := .value (.func 67), args := #[.tmp 9], argTypes := #[3] }, none⟩,
    ⟨some 11, .call { callee := .value (.func 58), args := #[.tmp 7, .tmp 8, .tmp 10, .const (.int .i64 1)], argTypes := #[22, 3, 3, 3] }, none⟩,
    ⟨some 12, .indexAddr 30 (.tmp 11) (.const (.int .i64 0)), none⟩,
    ⟨some 13, .load 22 (.tmp 12), none⟩,
    ⟨some 2, .assign (.tmp 13), none⟩,
    ⟨some 3, .assign (.const (.bool true)), none⟩])
  .ret)))
theorem hd22 : Try.f22.body.map dec = some c22 := by kernel_rfl
theorem e22 {R : AV → AH → Prop} {h : AH} (x0 : AV) (H : h.wf → AI Try.prog c22 (RetQ Try.prog [.tmp 2, .tmp 3] R) [x0, un, un, un, un, un, un, un, un, un, un, un, un, un] h) : AC Try.prog 22 [x0] h R :=
  AC_of' (rs := [.tmp 2, .tmp 3]) Try.func22 (by kernel_rfl) hd22 Try.ntmps22 rfl H

/-- impl.in -/
def c65 : IC :=
  (.seq
  (.reg [
    ⟨some 6, .assign (.const (.bool false)), none⟩])
  (.seq
  (.reg [
    ⟨some 7, .move (.tmp 0), none⟩,
    ⟨some 8, .move (.tmp 1), none⟩,
    ⟨some 9, .binOp .geq 3 (.tmp 7) (.tmp 8) 3, none⟩,
    ⟨some 10, .move (.tmp 9), none⟩,
    ⟨some 11, .move (.tmp 0), some (10, true)⟩,
    ⟨some 12, .move (.tmp 2), some (10, true)⟩,
    ⟨some 13, .binOp .leq 3 (.tmp 11) (.tmp 12) 3, some (10, true)⟩,
    ⟨some 14, .pick (.tmp 10) (.tmp 13) (.const (.bool false)), none⟩,
    ⟨some 6, .assign (.tmp 14), none⟩])
  .ret))
theorem hd65 : Try.f65.body.map dec = some c65 := by kernel_rfl
theorem e65 {R : AV → AH → Prop} {h : AH} (x0 x1 x2 : AV) (H : h.wf → AI Try.prog c65 (RetQ Try.prog [.tmp 6] R) [x0, x1, x2, un, un, un, un, un, un, un, un, un, un, un, un] h) : AC Try.prog 65 [x0, x1, x2] h R :=
  AC_of' (rs := [.tmp 6]) Try.func65 (by kernel_rfl) hd65 Try.ntmps65 rfl H

/-- impl.isShort -/
def c59 : IC :=
  (.seq
  (.reg [
    ⟨some 2, .assign (.const (.bool false)), none⟩])
  (.seq
  (.reg [
    ⟨some 3, .move (.tmp 0), none⟩,
    ⟨some 4, .call { callee := .value (.func 65), args := #[.tmp 3, .const (.int .i64 1), .const (.int .i64 100)], argTypes := #[3, 3, 3] }, none⟩,
    ⟨some 2, .assign (.tmp 4), none⟩])
  .ret))
theorem hd59 : Try.f59.body.map dec = some c59 := by kernel_rfl
theorem e59 {R : AV → AH → Prop} {h : AH} (x0 : AV) (H : h.wf → AI Try.prog c59 (RetQ Try.prog [.tmp 2] R) [x0, un, un, un, un] h) : AC Try.prog 59 [x0] h R :=
  AC_of' (rs := [.tmp 2]) Try.func59 (by kernel_rfl) hd59 Try.ntmps59 rfl H

/-- slices.Clip[[]int,int] -/
def c92 : IC :=
  (.seq
  (.reg [
    ⟨some 2, .assign (.const (.slice none 0 0)), none⟩])
  (.seq
  (.reg [
    ⟨some 3, .move (.tmp 0), none⟩,
    ⟨some 4, .move (.tmp 0), none⟩,
    ⟨some 5, .call { callee := .builtin .len, args := #[.tmp 4], argTypes := #[22] }, none⟩,
    ⟨some 6, .move (.tmp 0), none⟩,
    ⟨some 7, .call { callee := .builtin .len, args := #[.tmp 6], argTypes := #[22] }, none⟩,
    ⟨some 8, .slice 22 (.tmp 3) none (some (.tmp 5)) (some (.tmp 7)), none⟩,
    ⟨some 2, .assign (.tmp 8), none⟩])
  .ret))
theorem hd92 : Try.f92.body.map dec = some c92 := by kernel_rfl
theorem e92 {R : AV → AH → Prop} {h : AH} (x0 : AV) (H : h.wf → AI Try.prog c92 (RetQ Try.prog [.tmp 2] R) [x0, un, un, un, un, un, un, un, un] h) : AC Try.prog 92 [x0] h R :=
  AC_of' (rs := [.tmp 2]) Try.func92 (by kernel_rfl) hd92 Try.ntmps92 rfl H

/-- impl.stars -/
def c70 : IC :=
  (.seq
  (.reg [
    ⟨some 8, .assign (.const (.bool false)), none⟩])
  (.seq
  (.reg [
    ⟨some 13, .move (.tmp 2), none⟩,
    ⟨some 14, .move (.tmp 2), none⟩,
    ⟨some 15, .call { callee := .builtin .len, args := #[.tmp 14], argTypes := #[22] }, none⟩,
    ⟨some 16, .binOp .sub 3 (.tmp 15) (.const (.int .i64 1)) 3, none⟩,
    ⟨some 17, .indexAddr 22 (.tmp 13) (.tmp 16), none⟩,
    ⟨some 18, .load 3 (.tmp 17), none⟩,
    ⟨some 9, .assign (.tmp 18), none⟩])
  (.seq
  (.reg [
    ⟨some 19, .move (.tmp 1), none⟩,
    ⟨some 20, .move (.tmp 2), none⟩,
    ⟨some 21, .call { callee := .builtin .len, args := #[.tmp 20], argTypes := #[22] }, none⟩,
    ⟨some 22, .binOp .sub 3 (.tmp 19) (.tmp 21) 3, none⟩,
    ⟨some 23, .binOp .add 3 (.tmp 22) (.const (.int .i64 1)) 3, none⟩,
    ⟨some 10, .assign (.tmp 23), none⟩])
  (.seq
  (.block 0
  (.seq
  (.reg [
    ⟨some 25, .move (.tmp 10), none⟩,
    ⟨some 26, .binOp .eql 3 (.tmp 25) (.const (.int .i64 0)) 3, none⟩,
    ⟨some 24, .assign (.tmp 26), none⟩])
  (.cond (.tmp 24)
    (.seq
    (.reg [
      ⟨some 27, .move (.tmp 9), none⟩,
      ⟨some 28, .move (.tmp 0), none⟩,
      ⟨some 29, .binOp .eql 3 (.tmp 27) (.tmp 28) 3, none⟩,
      ⟨some 30, .move (.tmp 29), none⟩,
      ⟨some 31, .move (.tmp 3), some (30, true)⟩,
      ⟨some 32, .move (.tmp 2), some (30, true)⟩,
      ⟨some 33, .call { callee := .value (.tmp 31), args := #[.tmp 32], argTypes := #[22] }, some (30, true)⟩,
      ⟨some 34, .pick (.tmp 30) (.tmp 33) (.const (.bool false)), none⟩,
      ⟨some 8, .assign (.tmp 34), none⟩])
    .ret)
    (.seq
    (.reg [
      ⟨some 36, .move (.tmp 9), none⟩,
      ⟨some 37, .move (.tmp 0), none⟩,
      ⟨some 38, .binOp .geq 3 (.tmp 36) (.tmp 37) 3, none⟩,
      ⟨some 39, .move (.tmp 38), none⟩,
      ⟨some 40, .move (.tmp 9), some (39, false)⟩,
      ⟨some 41, .move (.tmp 10), some (39, false)⟩,
      ⟨some 42, .binOp .shl 3 (.tmp 40) (.tmp 41) 3, some (39, false)⟩,
      ⟨some 43, .move (.tmp 0), some (39, false)⟩,
      ⟨some 44, .binOp .lss 3 (.tmp 42) (.tmp 43) 3, some (39, false)⟩,
      ⟨some 45, .pick (.tmp 39) (.const (.bool true)) (.tmp 44), none⟩,
      ⟨some 35, .assign (.tmp 45), none⟩])
    (.cond (.tmp 35)
      (.seq
      (.reg [
        ⟨some 8, .assign (.const (.bool false)), none⟩])
      .ret)
      .skip)))))
  (.seq
  (.seq
  (.reg [
    ⟨some 46, .move (.tmp 2), none⟩,
    ⟨some 47, .call { callee := .builtin .len, args := #[.tmp 46], argTypes := #[22] }, none⟩,
    ⟨some 48, .move (.const (.int .i64 0)), none⟩])
  (.block 1
  (.loop
    (.seq
    (.reg [
      ⟨some 49, .binOp .lss 3 (.tmp 48) (.tmp 47) 3, none⟩])
    (.seq
    (.cond (.tmp 49)
      .skip
      (.exit 1))
    (.seq
    (.block 2
    (.seq
    (.reg [
      ⟨some 50, .indexAddr 22 (.tmp 46) (.tmp 48), none⟩,
      ⟨some 51, .load 3 (.tmp 50), none⟩,
      ⟨some 12, .assign (.tmp 51), none⟩])
    (.seq
    (.reg [
      ⟨some 52, .move (.tmp 0), none⟩,
      ⟨some 53, .move (.tmp 1), none⟩,
      ⟨some 54, .move (.tmp 2), none⟩,
      ⟨some 55, .call { callee := .value (.func 92), args := #[.tmp 54], argTypes := #[22] }, none⟩,
      ⟨some 56, .move (.tmp 9), none⟩,
      ⟨some 57, .move (.tmp 12), none⟩,
      ⟨some 58, .binOp .add 3 (.tmp 56) (.tmp 57) 3, none⟩,
      ⟨some 59, .buildSlice 22 1 #[(0, .tmp 58)], none⟩,
      ⟨some 60, .call { callee := .builtin .append, args := #[.tmp 55, .tmp 59], argTypes := #[22, 22] }, none⟩,
      ⟨some 61, .move (.tmp 3), none⟩,
      ⟨some 62, .call { callee := .value (.func 70), args := #[.tmp 52, .tmp 53, .tmp 60, .tmp 61], argTypes := #[3, 3, 22, 38] }, none⟩])
    (.cond (.tmp 62)
      (.seq
      (.reg [
        ⟨some 8, .assign (.const (.bool true)), none⟩])
      .ret)
      .skip))))
    (.reg [
      ⟨some 63, .binOp .add 3 (.tmp 48) (.const (.int .i64 1)) 3, none⟩,
      ⟨some 48, .move (.tmp 63), none⟩])))))))
  (.seq
  (.reg [
    ⟨some 8, .assign (.const (.bool false)), none⟩])
  .ret))))))
theorem hd70 : Try.f70.body.map dec = some c70 := by kernel_rfl
theorem e70 {R : AV → AH → Prop} {h : AH} (x0 x1 x2 x3 : AV) (H : h.wf → AI Try.prog c70 (RetQ Try.prog [.tmp 8] R) [x0, x1, x2, x3, un, un, un, un, un, un, un, un, un, un, un, un, un, un, un, un, un, un, un, un, un, un, un, un, un, un, un, un, un, un, un, un, un, un, un, un, un, un, un, un, un, un, un, un, un, un, un, un, un, un, un, un, un, un, un, un, un, un, un, un] h) : AC Try.prog 70 [x0, x1, x2, x3] h R :=
  AC_of' (rs := [.tmp 8]) Try.func70 (by kernel_rfl) hd70 Try.ntmps70 rfl H

/-- slices.Clone[[]int,int] -/
def c72 : IC :=
  (.seq
  (.reg [
    ⟨some 2, .assign (.const (.slice none 0 0)), none⟩])
  (.seq
  (.seq
  (.reg [
    ⟨some 3, .move (.tmp 0), none⟩,
    ⟨some 4, .binOp .eql 22 (.tmp 3) (.const (.slice none 0 0)) 22, none⟩])
  (.cond (.tmp 4)
    (.seq
    (.reg [
      ⟨some 2, .assign (.const (.slice none 0 0)), none⟩])
    .ret)
    .skip))
  (.seq
  (.reg [
    ⟨some 5, .buildSlice 22 0 #[], none⟩,
    ⟨some 6, .move (.tmp 0), none⟩,
    ⟨some 7, .call { callee := .builtin .append, args := #[.tmp 5, .tmp 6], argTypes := #[22, 22] }, none⟩,
    ⟨some 2, .assign (.tmp 7), none⟩])
  .ret)))
theorem hd72 : Try.f72.body.map dec = some c72 := by kernel_rfl
theorem e72 {R : AV → AH → Prop} {h : AH} (x0 : AV) (H : h.wf → AI Try.prog c72 (RetQ Try.prog [.tmp 2] R) [x0, un, un, un, un, un, un, un] h) : AC Try.prog 72 [x0] h R :=
  AC_of' (rs := [.tmp 2]) Try.func72 (by kernel_rfl) hd72 Try.ntmps72 rfl H

/-- impl.firstStar$1 -/
def c89 : IC :=
  (.seq
  (.reg [
    ⟨some 3, .assign (.const (.bool false)), none⟩])
  (.seq
  (.reg [
    ⟨some 4, .move (.tmp 0), none⟩,
    ⟨some 5, .call { callee := .value (.func 72), args := #[.tmp 4], argTypes := #[22] }, none⟩,
    ⟨none, .store 22 (.tmp 1) (.tmp 5), none⟩])
  (.seq
  (.reg [
    ⟨some 3, .assign (.const (.bool true)), none⟩])
  .ret)))
theorem hd89 : Try.f89.body.map dec = some c89 := by kernel_rfl
theorem e89 {R : AV → AH → Prop} {h : AH} (x0 x1 : AV) (H : h.wf → AI Try.prog c89 (RetQ Try.prog [.tmp 3] R) [x0, x1, un, un, un, un] h) : AC Try.prog 89 [x0, x1] h R :=
  AC_of' (rs := [.tmp 3]) Try.func89 (by kernel_rfl) hd89 Try.ntmps89 rfl H

/-- impl.firstStar -/
def c61 : IC :=
  (.seq
  (.reg [
    ⟨some 4, .assign (.const (.slice none 0 0)), none⟩,
    ⟨some 5, .assign (.const (.bool false)), none⟩])
  (.seq
  (.reg [
    ⟨some 8, .buildSlice 22 0 #[], none⟩,
    ⟨some 6, .alloc 22, none⟩,
    ⟨none, .store 22 (.tmp 6) (.tmp 8), none⟩])
  (.seq
  (.reg [
    ⟨some 9, .move (.tmp 0), none⟩,
    ⟨some 10, .move (.tmp 1), none⟩,
    ⟨some 11, .buildSlice 22 1 #[(0, .const (.int .i64 1))], none⟩,
    ⟨some 12, .makeFunc (.func 89) #[] #[.tmp 6], none⟩,
    ⟨some 13, .call { callee := .value (.func 70), args := #[.tmp 9, .tmp 10, .tmp 11, .tmp 12], argTypes := #[3, 3, 22, 38] }, none⟩,
    ⟨some 7, .assign (.tmp 13), none⟩])
  (.seq
  (.reg [
    ⟨some 14, .load 22 (.tmp 6), none⟩,
    ⟨some 15, .move (.tmp 7), none⟩,
    ⟨some 4, .assign (.tmp 14), none⟩,
    ⟨some 5, .assign (.tmp 15), none⟩])
  .ret))))
theorem hd61 : Try.f61.body.map dec = some c61 := by kernel_rfl
theorem e61 {R : AV → AH → Prop} {h : AH} (x0 x1 : AV) (H : h.wf → AI Try.prog c61 (RetQ Try.prog [.tmp 4, .tmp 5] R) [x0, x1, un, un, un, un, un, un, un, un, un, un, un, un, un, un] h) : AC Try.prog 61 [x0, x1] h R :=
  AC_of' (rs := [.tmp 4, .tmp 5]) Try.func61 (by kernel_rfl) hd61 Try.ntmps61 rfl H

/-- impl.shortest -/
def c68 : IC :=
  (.seq
  (.reg [
    ⟨some 2, .assign (.const (.slice none 0 0)), none⟩])
  (.seq
  (.reg [
    ⟨some 3, .assign (.const (.int .i64 0)), none⟩])
  (.block 0
  (.loop
    (.seq
    (.block 1
    (.seq
    (.reg [
      ⟨some 9, .move (.tmp 0), none⟩,
      ⟨some 10, .move (.tmp 3), none⟩,
      ⟨some 11, .call { callee := .value (.func 61), args := #[.tmp 9, .tmp 10], argTypes := #[3, 3] }, none⟩,
      ⟨some 8, .move (.tmp 11), none⟩,
      ⟨some 12, .extract (.tmp 8) 0, none⟩,
      ⟨some 13, .extract (.tmp 8) 1, none⟩,
      ⟨some 4, .assign (.tmp 12), none⟩,
      ⟨some 5, .assign (.tmp 13), none⟩])
    (.seq
    (.reg [
      ⟨some 14, .move (.tmp 5), none⟩])
    (.cond (.tmp 14)
      (.seq
      (.reg [
        ⟨some 15, .move (.tmp 4), none⟩,
        ⟨some 2, .assign (.tmp 15), none⟩])
      .ret)
      .skip))))
    (.reg [
      ⟨some 6, .move (.tmp 3), none⟩,
      ⟨some 7, .binOp .add 3 (.tmp 6) (.const (.int .i64 1)) 3, none⟩,
      ⟨some 3, .assign (.tmp 7), none⟩]))))))
theorem hd68 : Try.f68.body.map dec = some c68 := by kernel_rfl
theorem e68 {R : AV → AH → Prop} {h : AH} (x0 : AV) (H : h.wf → AI Try.prog c68 (RetQ Try.prog [.tmp 2] R) [x0, un, un, un, un, un, un, un, un, un, un, un, un, un, un, un] h) : AC Try.prog 68 [x0] h R :=
  AC_of' (rs := [.tmp 2]) Try.func68 (by kernel_rfl) hd68 Try.ntmps68 rfl H

/-- impl.ShortestStar -/
def c23 : IC :=
  (.seq
  (.reg [
    ⟨some 2, .assign (.const (.slice none 0 0)), none⟩,
    ⟨some 3, .assign (.const (.bool false)), none⟩])
  (.seq
  (.seq
  (.reg [
    ⟨some 4, .move (.tmp 0), none⟩,
    ⟨some 5, .call { callee := .value (.func 59), args := #[.tmp 4], argTypes := #[3] }, none⟩,
    ⟨some 6, .unOp .not 4 (.tmp 5), none⟩])
  (.cond (.tmp 6)
    (.seq
    (.reg [
      ⟨some 2, .assign (.const (.slice none 0 0)), none⟩,
      ⟨some 3, .assign (.const (.bool false)), none⟩])
    .ret)
    .skip))
  (.seq
  (.reg [
    ⟨some 7, .move (.tmp 0), none⟩,
    ⟨some 8, .call { callee := .value (.func 68), args := #[.tmp 7], argTypes := #[3] }, none⟩,
    ⟨some 2, .assign (.tmp 8), none⟩,
    ⟨some 3, .assign (.const (.bool true)), none⟩])
  .ret)))
theorem hd23 : Try.f23.body.map dec = some c23 := by kernel_rfl
theorem e23 {R : AV → AH → Prop} {h : AH} (x0 : AV) (H : h.wf → AI Try.prog c23 (RetQ Try.prog [.tmp 2, .tmp 3] R) [x0, un, un, un, un, un, un, un, un] h) : AC Try.prog 23 [x0] h R :=
  AC_of' (rs := [.tmp 2, .tmp 3]) Try.func23 (by kernel_rfl) hd23 Try.ntmps23 rfl H

/-- impl.treeWays -/
def c66 : IC :=
  (.seq
  (.reg [
    ⟨some 2, .assign (.const (.map none)), none⟩,
    ⟨some 3, .assign (.const (.slice none 0 0)), none⟩])
  (.seq
  (.reg [
    ⟨some 12, .makeMap 51 none, none⟩,
    ⟨some 13, .buildSlice 22 1 #[(0, .const (.int .i64 1))], none⟩,
    ⟨none, .insert 51 (.tmp 12) (.const (.int .i64 1)) (.tmp 13), none⟩,
    ⟨some 14, .move (.tmp 12), none⟩,
    ⟨some 15, .buildSlice 22 1 #[(0, .const (.int .i64 1))], none⟩,
    ⟨some 16, .buildSlice 30 1 #[(0, .tmp 15)], none⟩,
    ⟨some 4, .assign (.tmp 14), none⟩,
    ⟨some 5, .assign (.tmp 16), none⟩])
  (.block 0
  (.loop
    (.block 1
    (.seq
    (.reg [
      ⟨some 17, .buildSlice 22 0 #[], none⟩,
      ⟨some 6, .assign (.tmp 17), none⟩])
    (.seq
    (.seq
    (.reg [
      ⟨some 18, .move (.tmp 5), none⟩,
      ⟨some 19, .move (.tmp 5), none⟩,
      ⟨some 20, .call { callee := .builtin .len, args := #[.tmp 19], argTypes := #[30] }, none⟩,
      ⟨some 21, .binOp .sub 3 (.tmp 20) (.const (.int .i64 1)) 3, none⟩,
      ⟨some 22, .indexAddr 30 (.tmp 18) (.tmp 21), none⟩,
      ⟨some 23, .load 22 (.tmp 22), none⟩,
      ⟨some 24, .call { callee := .builtin .len, args := #[.tmp 23], argTypes := #[22] }, none⟩,
      ⟨some 25, .move (.const (.int .i64 0)), none⟩])
    (.block 2
    (.loop
      (.seq
      (.reg [
        ⟨some 26, .binOp .lss 3 (.tmp 25) (.tmp 24) 3, none⟩])
      (.seq
      (.cond (.tmp 26)
        .skip
        (.exit 2))
      (.seq
      (.block 3
      (.seq
      (.reg [
        ⟨some 27, .indexAddr 22 (.tmp 23) (.tmp 25), none⟩,
        ⟨some 28, .load 3 (.tmp 27), none⟩,
        ⟨some 8, .assign (.tmp 28), none⟩])
      (.seq
      (.reg [
        ⟨some 29, .move (.tmp 4), none⟩,
        ⟨some 30, .move (.tmp 8), none⟩,
        ⟨some 31, .lookup 51 (.tmp 29) (.tmp 30) false, none⟩,
        ⟨some 32, .call { callee := .builtin .len, args := #[.tmp 31], argTypes := #[22] }, none⟩,
        ⟨some 33, .move (.const (.int .i64 0)), none⟩])
      (.block 4
      (.loop
        (.seq
        (.reg [
          ⟨some 34, .binOp .lss 3 (.tmp 33) (.tmp 32) 3, none⟩])
        (.seq
        (.cond (.tmp 34)
          .skip
          (.exit 4))
        (.seq
        (.block 5
        (.seq
        (.reg [
          ⟨some 35, .indexAddr 22 (.tmp 31) (.tmp 33), none⟩,
          ⟨some 36, .load 3 (.tmp 35), none⟩,
          ⟨some 10, .assign (.tmp 36), none⟩])
        (.seq
        (.reg [
          ⟨some 37, .move (.tmp 8), none⟩,
          ⟨some 38, .move (.tmp 10), none⟩,
          ⟨some 39, .binOp .add 3 (.tmp 37) (.tmp 38) 3, none⟩,
          ⟨some 11, .assign (.tmp 39), none⟩])
        (.seq
        (.reg [
          ⟨some 40, .move (.tmp 11), none⟩,
          ⟨some 41, .move (.tmp 0), none⟩,
          ⟨some 42, .binOp .leq 3 (.tmp 40) (.tmp 41) 3, none⟩,
          ⟨some 43, .move (.tmp 42), none⟩,
          ⟨some 44, .move (.tmp 4), some (43, true)⟩,
          ⟨some 45, .move (.tmp 11), some (43, true)⟩,
          ⟨some 46, .lookup 51 (.tmp 44) (.tmp 45) false, some (43, true)⟩,
          ⟨some 47, .binOp .eql 22 (.tmp 46) (.const (.slice none 0 0)) 22, some (43, true)⟩,
          ⟨some 48, .pick (.tmp 43) (.tmp 47) (.const (.bool false)), none⟩])
        (.cond (.tmp 48)
          (.seq
          (.reg [
            ⟨some 49, .move (.tmp 4), none⟩,
            ⟨some 50, .move (.tmp 11), none⟩,
            ⟨some 51, .move (.tmp 4), none⟩,
            ⟨some 52, .move (.tmp 8), none⟩,
            ⟨some 53, .lookup 51 (.tmp 51) (.tmp 52) false, none⟩,
            ⟨some 54, .call { callee := .value (.func 72), args := #[.tmp 53], argTypes := #[22] }, none⟩,
            ⟨some 55, .move (.tmp 11), none⟩,
            ⟨some 56, .buildSlice 22 1 #[(0, .tmp 55)], none⟩,
            ⟨some 57, .call { callee := .builtin .append, args := #[.tmp 54, .tmp 56], argTypes := #[22, 22] }, none⟩,
            ⟨none, .mapUpdate 51 (.tmp 49) (.tmp 50) (.tmp 57), none⟩])
          (.reg [
            ⟨some 58, .move (.tmp 6), none⟩,
            ⟨some 59, .move (.tmp 11), none⟩,
            ⟨some 60, .buildSlice 22 1 #[(0, .tmp 59)], none⟩,
            ⟨some 61, .call { callee := .builtin .append, args := #[.tmp 58, .tmp 60], argTypes := #[22, 22] }, none⟩,
            ⟨some 6, .assign (.tmp 61), none⟩]))
          .skip)))))
        (.reg [
          ⟨some 62, .binOp .add 3 (.tmp 33) (.const (.int .i64 1)) 3, none⟩,
          ⟨some 33, .move (.tmp 62), none⟩])))))))))
      (.reg [
        ⟨some 63, .binOp .add 3 (.tmp 25) (.const (.int .i64 1)) 3, none⟩,
        ⟨some 25, .move (.tmp 63), none⟩])))))))
    (.seq
    (.seq
    (.reg [
      ⟨some 64, .move (.tmp 6), none⟩,
      ⟨some 65, .call { callee := .builtin .len, args := #[.tmp 64], argTypes := #[22] }, none⟩,
      ⟨some 66, .binOp .eql 3 (.tmp 65) (.const (.int .i64 0)) 3, none⟩])
    (.cond (.tmp 66)
      (.seq
      (.reg [
        ⟨some 67, .move (.tmp 4), none⟩,
        ⟨some 68, .move (.tmp 5), none⟩,
        ⟨some 2, .assign (.tmp 67), none⟩,
        ⟨some 3, .assign (.tmp 68), none⟩])
      .ret)
      .skip))
    (.reg [
      ⟨some 69, .move (.tmp 5), none⟩,
      ⟨some 70, .move (.tmp 6), none⟩,
      ⟨some 71, .buildSlice 30 1 #[(0, .tmp 70)], none⟩,
      ⟨some 72, .call { callee := .builtin .append, args := #[.tmp 69, .tmp 71], argTypes := #[30, 30] }, none⟩,
      ⟨some 5, .assign (.tmp 72), none⟩])))))))))
theorem hd66 : Try.f66.body.map dec = some c66 := by kernel_rfl
theorem e66 {R : AV → AH → Prop} {h : AH} (x0 : AV) (H : h.wf → AI Try.prog c66 (RetQ Try.prog [.tmp 2, .tmp 3] R) [x0, un, un, un, un, un, un, un, un, un, un, un, un, un, un, un, un, un, un, un, un, un, un, un, un, un, un, un, un, un, un, un, un, un, un, un, un, un, un, un, un, un, un, un, un, un, un, un, un, un, un, un, un, un, un, un, un, un, un, un, un, un, un, un, un, un, un, un, un, un, un, un, un] h) : AC Try.prog 66 [x0] h R :=
  AC_of' (rs := [.tmp 2, .tmp 3]) Try.func66 (by kernel_rfl) hd66 Try.ntmps66 rfl H

/-- impl.TreePath -/
def c25 : IC :=
  (.seq
  (.reg [
    ⟨some 2, .assign (.const (.slice none 0 0)), none⟩,
    ⟨some 3, .assign (.const (.bool false)), none⟩])
  (.seq
  (.seq
  (.reg [
    ⟨some 6, .move (.tmp 0), none⟩,
    ⟨some 7, .call { callee := .value (.func 59), args := #[.tmp 6], argTypes := #[3] }, none⟩,
    ⟨some 8, .unOp .not 4 (.tmp 7), none⟩])
  (.cond (.tmp 8)
    (.seq
    (.reg [
      ⟨some 2, .assign (.const (.slice none 0 0)), none⟩,
      ⟨some 3, .assign (.const (.bool false)), none⟩])
    .ret)
    .skip))
  (.seq
  (.reg [
    ⟨some 10, .call { callee := .value (.func 66), args := #[.const (.int .i64 256)], argTypes := #[3] }, none⟩,
    ⟨some 9, .move (.tmp 10), none⟩,
    ⟨some 11, .extract (.tmp 9) 0, none⟩,
    ⟨some 12, .extract (.tmp 9) 1, none⟩,
    ⟨some 4, .assign (.tmp 11), none⟩,
    ⟨some 5, .assign (.tmp 12), none⟩])
  (.seq
  (.reg [
    ⟨some 13, .move (.tmp 4), none⟩,
    ⟨some 14, .move (.tmp 0), none⟩,
    ⟨some 15, .lookup 51 (.tmp 13) (.tmp 14) false, none⟩,
    ⟨some 2, .assign (.tmp 15), none⟩,
    ⟨some 3, .assign (.const (.bool true)), none⟩])
  .ret))))
theorem hd25 : Try.f25.body.map dec = some c25 := by kernel_rfl
theorem e25 {R : AV → AH → Prop} {h : AH} (x0 : AV) (H : h.wf → AI Try.prog c25 (RetQ Try.prog [.tmp 2, .tmp 3] R) [x0, un, un, un, un, un, un, un, un, un, un, un, un, un, un, un] h) : AC Try.prog 25 [x0] h R :=
  AC_of' (rs := [.tmp 2, .tmp 3]) Try.func25 (by kernel_rfl) hd25 Try.ntmps25 rfl H

/-- laws.big -/
def c31 : IC :=
  (.seq
  (.reg [
    ⟨some 4, .assign (.const (.bool false)), none⟩])
  (.seq
  (.reg [
    ⟨some 5, .move (.tmp 0), none⟩,
    ⟨some 6, .call { callee := .builtin .len, args := #[.tmp 5], argTypes := #[35] }, none⟩,
    ⟨some 7, .binOp .gtr 3 (.tmp 6) (.const (.int .i64 1048576)) 3, none⟩,
    ⟨some 8, .move (.tmp 7), none⟩,
    ⟨some 9, .move (.tmp 1), some (8, false)⟩,
    ⟨some 10, .call { callee := .builtin .len, args := #[.tmp 9], argTypes := #[35] }, some (8, false)⟩,
    ⟨some 11, .move (.tmp 0), some (8, false)⟩,
    ⟨some 12, .call { callee := .builtin .len, args := #[.tmp 11], argTypes := #[35] }, some (8, false)⟩,
    ⟨some 13, .binOp .sub 3 (.const (.int .i64 1048576)) (.tmp 12) 3, some (8, false)⟩,
    ⟨some 14, .binOp .gtr 3 (.tmp 10) (.tmp 13) 3, some (8, false)⟩,
    ⟨some 15, .pick (.tmp 8) (.const (.bool true)) (.tmp 14), none⟩,
    ⟨some 4, .assign (.tmp 15), none⟩])
  .ret))
theorem hd31 : Try.f31.body.map dec = some c31 := by kernel_rfl
theorem e31 {R : AV → AH → Prop} {h : AH} (x0 x1 : AV) (H : h.wf → AI Try.prog c31 (RetQ Try.prog [.tmp 4] R) [x0, x1, un, un, un, un, un, un, un, un, un, un, un, un, un, un] h) : AC Try.prog 31 [x0, x1] h R :=
  AC_of' (rs := [.tmp 4]) Try.func31 (by kernel_rfl) hd31 Try.ntmps31 rfl H

/-- slices.Index[[]int,int] -/
def c94 : IC :=
  (.seq
  (.reg [
    ⟨some 4, .assign (.const (.int .i64 0)), none⟩])
  (.seq
  (.seq
  (.reg [
    ⟨some 6, .move (.tmp 0), none⟩,
    ⟨some 7, .call { callee := .builtin .len, args := #[.tmp 6], argTypes := #[22] }, none⟩,
    ⟨some 8, .move (.const (.int .i64 0)), none⟩])
  (.block 0
  (.loop
    (.seq
    (.reg [
      ⟨some 9, .binOp .lss 3 (.tmp 8) (.tmp 7) 3, none⟩])
    (.seq
    (.cond (.tmp 9)
      .skip
      (.exit 0))
    (.seq
    (.block 1
    (.seq
    (.reg [
      ⟨some 10, .move (.tmp 8), none⟩,
      ⟨some 5, .assign (.tmp 10), none⟩])
    (.seq
    (.reg [
      ⟨some 11, .move (.tmp 1), none⟩,
      ⟨some 12, .move (.tmp 0), none⟩,
      ⟨some 13, .move (.tmp 5), none⟩,
      ⟨some 14, .indexAddr 22 (.tmp 12) (.tmp 13), none⟩,
      ⟨some 15, .load 3 (.tmp 14), none⟩,
      ⟨some 16, .binOp .eql 3 (.tmp 11) (.tmp 15) 3, none⟩])
    (.cond (.tmp 16)
      (.seq
      (.reg [
        ⟨some 17, .move (.tmp 5), none⟩,
        ⟨some 4, .assign (.tmp 17), none⟩])
      .ret)
      .skip))))
    (.reg [
      ⟨some 18, .binOp .add 3 (.tmp 8) (.const (.int .i64 1)) 3, none⟩,
      ⟨some 8, .move (.tmp 18), none⟩])))))))
  (.seq
  (.reg [
    ⟨some 4, .assign (.const (.int .i64 (-1))), none⟩])
  .ret)))
theorem hd94 : Try.f94.body.map dec = some c94 := by kernel_rfl
theorem e94 {R : AV → AH → Prop} {h : AH} (x0 x1 : AV) (H : h.wf → AI Try.prog c94 (RetQ Try.prog [.tmp 4] R) [x0, x1, un, un, un, un, un, un, un, un, un, un, un, un, un, un, un, un, un] h) : AC Try.prog 94 [x0, x1] h R :=
  AC_of' (rs := [.tmp 4]) Try.func94 (by kernel_rfl) hd94 Try.ntmps94 rfl H

/-- slices.Contains[[]int,int] -/
def c75 : IC :=
  (.seq
  (.reg [
    ⟨some 4, .assign (.const (.bool false)), none⟩])
  (.seq
  (.reg [
    ⟨some 5, .move (.tmp 0), none⟩,
    ⟨some 6, .move (.tmp 1), none⟩,
    ⟨some 7, .call { callee := .value (.func 94), args := #[.tmp 5, .tmp 6], argTypes := #[22, 3] }, none⟩,
    ⟨some 8, .binOp .geq 3 (.tmp 7) (.const (.int .i64 0)) 3, none⟩,
    ⟨some 4, .assign (.tmp 8), none⟩])
  .ret))
theorem hd75 : Try.f75.body.map dec = some c75 := by kernel_rfl
theorem e75 {R : AV → AH → Prop} {h : AH} (x0 x1 : AV) (H : h.wf → AI Try.prog c75 (RetQ Try.prog [.tmp 4] R) [x0, x1, un, un, un, un, un, un, un] h) : AC Try.prog 75 [x0, x1] h R :=
  AC_of' (rs := [.tmp 4]) Try.func75 (by kernel_rfl) hd75 Try.ntmps75 rfl H

noncomputable def rg33_0 : Array Oper := rawAt Try.f33 0
-- NO ORDER
/-- impl.IsStarChain -/
noncomputable def c33 : IC :=
  (.seq
  (.reg [
    ⟨some 2, .assign (.const (.bool false)), none⟩])
  (.seq
  (.seq
  (.reg [
    ⟨some 4, .move (.tmp 0), none⟩,
    ⟨some 5, .call { callee := .builtin .len, args := #[.tmp 4], argTypes := #[22] }, none⟩,
    ⟨some 6, .call { callee := .value (.func 65), args := #[.tmp 5, .const (.int .i64 1), .const (.int .i64 41)], argTypes := #[3, 3, 3] }, none⟩,
    ⟨some 7, .unOp .not 4 (.tmp 6), none⟩,
    ⟨some 8, .move (.tmp 7), none⟩,
    ⟨some 9, .move (.tmp 0), some (8, false)⟩,
    ⟨some 10, .indexAddr 22 (.tmp 9) (.const (.int .i64 0)), some (8, false)⟩,
    ⟨some 11, .load 3 (.tmp 10), some (8, false)⟩,
    ⟨some 12, .binOp .neq 3 (.tmp 11) (.const (.int .i64 1)) 3, some (8, false)⟩,
    ⟨some 13, .pick (.tmp 8) (.const (.bool true)) (.tmp 12), none⟩])
  (.cond (.tmp 13)
    (.seq
    (.reg [
      ⟨some 2, .assign (.const (.bool false)), none⟩])
    .ret)
    .skip))
  (.seq
  (.seq
  (.reg [
    ⟨some 3, .assign (.const (.int .i64 1)), none⟩])
  (.block 0
  (.loop
    (.seq
    (.seq
    (.reg [
      ⟨some 14, .move (.tmp 3), none⟩,
      ⟨some 15, .move (.tmp 0), none⟩,
      ⟨some 16, .call { callee := .builtin .len, args := #[.tmp 15], argTypes := #[22] }, none⟩,
      ⟨some 17, .binOp .lss 3 (.tmp 14) (.tmp 16) 3, none⟩])
    (.cond (.tmp 17)
      .skip
      (.exit 0)))
    (.seq
    (.block 1
    (.seq
    (.raw (.region 6 rg33_0 true))
    (.cond (.tmp 53)
      (.seq
      (.reg [
        ⟨some 2, .assign (.const (.bool false)), none⟩])
      .ret)
      .skip)))
    (.reg [
      ⟨some 18, .move (.tmp 3), none⟩,
      ⟨some 19, .binOp .add 3 (.tmp 18) (.const (.int .i64 1)) 3, none⟩,
      ⟨some 3, .assign (.tmp 19), none⟩]))))))
  (.seq
  (.reg [
    ⟨some 2, .assign (.const (.bool true)), none⟩])
  .ret))))
theorem hd33 : Try.f33.body.map dec = some c33 := by kernel_rfl
theorem e33 {R : AV → AH → Prop} {h : AH} (x0 : AV) (H : h.wf → AI Try.prog c33 (RetQ Try.prog [.tmp 2] R) [x0, un, un, un, un, un, un, un, un, un, un, un, un, un, un, un, un, un, un, un, un, un, un, un, un, un, un, un, un, un, un, un, un, un, un, un, un, un, un, un, un, un, un, un, un, un, un, un, un, un, un, un, un, un] h) : AC Try.prog 33 [x0] h R :=
  AC_of' (rs := [.tmp 2]) Try.func33 (by kernel_rfl) hd33 Try.ntmps33 rfl H
theorem dz33_0 {h0 : AH} {L : List It} {Q : Exit → List AV → List It → Prop} {a : List AV} {id : Nat} (H : LX Try.prog ⟨[], []⟩ h0 L L (.c (⟨some 20, .move (.tmp 0), none⟩, .p) <| .c (⟨some 21, .move (.tmp 3), none⟩, .p) <| .c (⟨some 22, .indexAddr 22 (.tmp 20) (.tmp 21), none⟩, .p) <| .c (⟨some 23, .load 3 (.tmp 22), none⟩, .l) <| .c (⟨some 24, .move (.tmp 0), none⟩, .p) <| .c (⟨some 25, .move (.tmp 3), none⟩, .p) <| .c (⟨some 26, .binOp .sub 3 (.tmp 25) (.const (.int .i64 1)) 3, none⟩, .p) <| .c (⟨some 27, .indexAddr 22 (.tmp 24) (.tmp 26), none⟩, .p) <| .c (⟨some 28, .load 3 (.tmp 27), none⟩, .l) <| .c (⟨some 29, .binOp .leq 3 (.tmp 23) (.tmp 28) 3, none⟩, .p) <| .c (⟨some 30, .move (.tmp 29), none⟩, .p) <| .c (⟨some 31, .move (.tmp 0), some (30, false)⟩, .p) <| .c (⟨some 32, .move (.tmp 3), some (30, false)⟩, .p) <| .c (⟨some 33, .indexAddr 22 (.tmp 31) (.tmp 32), some (30, false)⟩, .p) <| .c (⟨some 34, .load 3 (.tmp 33), some (30, false)⟩, .l) <| .c (⟨some 35, .binOp .gtr 3 (.tmp 34) (.const (.int .i64 1000000)) 3, some (30, false)⟩, .p) <| .c (⟨some 36, .pick (.tmp 30) (.const (.bool true)) (.tmp 35), none⟩, .p) <| .c (⟨some 37, .move (.tmp 36), none⟩, .p) <| .c (⟨some 38, .move (.tmp 0), some (37, false)⟩, .p) <| .c (⟨some 39, .move (.tmp 3), some (37, false)⟩, .p) <| .c (⟨some 40, .slice 22 (.tmp 38) none (some (.tmp 39)) none, some (37, false)⟩, .p) <| .c (⟨some 41, .move (.tmp 0), some (37, false)⟩, .p) <| .c (⟨some 42, .move (.tmp 3), some (37, false)⟩, .p) <| .c (⟨some 43, .indexAddr 22 (.tmp 41) (.tmp 42), some (37, false)⟩, .p) <| .c (⟨some 44, .load 3 (.tmp 43), some (37, false)⟩, .l) <| .c (⟨some 45, .move (.tmp 0), some (37, false)⟩, .p) <| .c (⟨some 46, .move (.tmp 3), some (37, false)⟩, .p) <| .c (⟨some 47, .binOp .sub 3 (.tmp 46) (.const (.int .i64 1)) 3, some (37, false)⟩, .p) <| .c (⟨some 48, .indexAddr 22 (.tmp 45) (.tmp 47), some (37, false)⟩, .p) <| .c (⟨some 49, .load 3 (.tmp 48), some (37, false)⟩, .l) <| .c (⟨some 50, .binOp .sub 3 (.tmp 44) (.tmp 49) 3, some (37, false)⟩, .p) <| .c (⟨some 51, .call { callee := .value (.func 75), args := #[.tmp 40, .tmp 50], argTypes := #[22, 3] }, some (37, false)⟩, .e) <| .c (⟨some 52, .unOp .not 4 (.tmp 51), some (37, false)⟩, .p) <| .c (⟨some 53, .pick (.tmp 37) (.const (.bool true)) (.tmp 52), none⟩, .p) <| .n) Q a) : LI Try.prog h0 L (.raw (.region id rg33_0 true)) Q a :=
  LI_draw (.c (0, .p) <| .c (1, .p) <| .c (2, .p) <| .c (3, .l) <| .c (4, .p) <| .c (5, .p) <| .c (6, .p) <| .c (7, .p) <| .c (8, .l) <| .c (9, .p) <| .c (10, .p) <| .c (11, .p) <| .c (12, .p) <| .c (13, .p) <| .c (14, .l) <| .c (15, .p) <| .c (16, .p) <| .c (17, .p) <| .c (18, .p) <| .c (19, .p) <| .c (20, .p) <| .c (21, .p) <| .c (22, .p) <| .c (23, .p) <| .c (24, .l) <| .c (25, .p) <| .c (26, .p) <| .c (27, .p) <| .c (28, .p) <| .c (29, .l) <| .c (30, .p) <| .c (31, .e) <| .c (32, .p) <| .c (33, .p) <| .n) [] (by kernel_rfl) (by kernel_rfl) (by kernel_rfl) H
theorem dy33_0 {h0 : AH} {L : List It} {Q : Exit → List AV → List It → Prop} {a : List AV} {id : Nat} (H : LX Try.prog ⟨[31], []⟩ h0 L L (.c (⟨some 20, .move (.tmp 0), none⟩, .p) <| .c (⟨some 21, .move (.tmp 3), none⟩, .p) <| .c (⟨some 22, .indexAddr 22 (.tmp 20) (.tmp 21), none⟩, .p) <| .c (⟨some 23, .load 3 (.tmp 22), none⟩, .l) <| .c (⟨some 24, .move (.tmp 0), none⟩, .p) <| .c (⟨some 25, .move (.tmp 3), none⟩, .p) <| .c (⟨some 26, .binOp .sub 3 (.tmp 25) (.const (.int .i64 1)) 3, none⟩, .p) <| .c (⟨some 27, .indexAddr 22 (.tmp 24) (.tmp 26), none⟩, .p) <| .c (⟨some 28, .load 3 (.tmp 27), none⟩, .l) <| .c (⟨some 29, .binOp .leq 3 (.tmp 23) (.tmp 28) 3, none⟩, .p) <| .c (⟨some 30, .move (.tmp 29), none⟩, .p) <| .c (⟨some 31, .move (.tmp 0), some (30, false)⟩, .p) <| .c (⟨some 32, .move (.tmp 3), some (30, false)⟩, .p) <| .c (⟨some 33, .indexAddr 22 (.tmp 31) (.tmp 32), some (30, false)⟩, .p) <| .c (⟨some 34, .load 3 (.tmp 33), some (30, false)⟩, .l) <| .c (⟨some 35, .binOp .gtr 3 (.tmp 34) (.const (.int .i64 1000000)) 3, some (30, false)⟩, .p) <| .c (⟨some 36, .pick (.tmp 30) (.const (.bool true)) (.tmp 35), none⟩, .p) <| .c (⟨some 37, .move (.tmp 36), none⟩, .p) <| .c (⟨some 38, .move (.tmp 0), some (37, false)⟩, .p) <| .c (⟨some 39, .move (.tmp 3), some (37, false)⟩, .p) <| .c (⟨some 40, .slice 22 (.tmp 38) none (some (.tmp 39)) none, some (37, false)⟩, .p) <| .c (⟨some 41, .move (.tmp 0), some (37, false)⟩, .p) <| .c (⟨some 42, .move (.tmp 3), some (37, false)⟩, .p) <| .c (⟨some 43, .indexAddr 22 (.tmp 41) (.tmp 42), some (37, false)⟩, .p) <| .c (⟨some 44, .load 3 (.tmp 43), some (37, false)⟩, .l) <| .c (⟨some 45, .move (.tmp 0), some (37, false)⟩, .p) <| .c (⟨some 46, .move (.tmp 3), some (37, false)⟩, .p) <| .c (⟨some 47, .binOp .sub 3 (.tmp 46) (.const (.int .i64 1)) 3, some (37, false)⟩, .p) <| .c (⟨some 48, .indexAddr 22 (.tmp 45) (.tmp 47), some (37, false)⟩, .p) <| .c (⟨some 49, .load 3 (.tmp 48), some (37, false)⟩, .l) <| .c (⟨some 50, .binOp .sub 3 (.tmp 44) (.tmp 49) 3, some (37, false)⟩, .p) <| .c (⟨some 51, .call { callee := .value (.func 75), args := #[.tmp 40, .tmp 50], argTypes := #[22, 3] }, some (37, false)⟩, .f) <| .c (⟨some 52, .unOp .not 4 (.tmp 51), some (37, false)⟩, .p) <| .c (⟨some 53, .pick (.tmp 37) (.const (.bool true)) (.tmp 52), none⟩, .p) <| .n) Q a) : LI Try.prog h0 L (.raw (.region id rg33_0 true)) Q a :=
  LI_draw (.c (0, .p) <| .c (1, .p) <| .c (2, .p) <| .c (3, .l) <| .c (4, .p) <| .c (5, .p) <| .c (6, .p) <| .c (7, .p) <| .c (8, .l) <| .c (9, .p) <| .c (10, .p) <| .c (11, .p) <| .c (12, .p) <| .c (13, .p) <| .c (14, .l) <| .c (15, .p) <| .c (16, .p) <| .c (17, .p) <| .c (18, .p) <| .c (19, .p) <| .c (20, .p) <| .c (21, .p) <| .c (22, .p) <| .c (23, .p) <| .c (24, .l) <| .c (25, .p) <| .c (26, .p) <| .c (27, .p) <| .c (28, .p) <| .c (29, .l) <| .c (30, .p) <| .c (31, .f) <| .c (32, .p) <| .c (33, .p) <| .n) [31] (by kernel_rfl) (by kernel_rfl) (by kernel_rfl) H

/-- impl.StarLength -/
def c36 : IC :=
  (.seq
  (.reg [
    ⟨some 2, .assign (.const (.int .i64 0)), none⟩,
    ⟨some 3, .assign (.const (.bool false)), none⟩])
  (.seq
  (.seq
  (.reg [
    ⟨some 4, .move (.tmp 0), none⟩,
    ⟨some 5, .call { callee := .value (.func 59), args := #[.tmp 4], argTypes := #[3] }, none⟩,
    ⟨some 6, .unOp .not 4 (.tmp 5), none⟩])
  (.cond (.tmp 6)
    (.seq
    (.reg [
      ⟨some 2, .assign (.const (.int .i64 0)), none⟩,
      ⟨some 3, .assign (.const (.bool false)), none⟩])
    .ret)
    .skip))
  (.seq
  (.reg [
    ⟨some 7, .move (.tmp 0), none⟩,
    ⟨some 8, .call { callee := .value (.func 68), args := #[.tmp 7], argTypes := #[3] }, none⟩,
    ⟨some 9, .call { callee := .builtin .len, args := #[.tmp 8], argTypes := #[22] }, none⟩,
    ⟨some 10, .binOp .sub 3 (.tmp 9) (.const (.int .i64 1)) 3, none⟩,
    ⟨some 2, .assign (.tmp 10), none⟩,
    ⟨some 3, .assign (.const (.bool true)), none⟩])
  .ret)))
theorem hd36 : Try.f36.body.map dec = some c36 := by kernel_rfl
theorem e36 {R : AV → AH → Prop} {h : AH} (x0 : AV) (H : h.wf → AI Try.prog c36 (RetQ Try.prog [.tmp 2, .tmp 3] R) [x0, un, un, un, un, un, un, un, un, un, un] h) : AC Try.prog 36 [x0] h R :=
  AC_of' (rs := [.tmp 2, .tmp 3]) Try.func36 (by kernel_rfl) hd36 Try.ntmps36 rfl H

noncomputable def rg38_0 : Array Oper := rawAt Try.f38 0
/-- laws.rSame -/
noncomputable def c38 : IC :=
  (.seq
  (.reg [
    ⟨some 4, .assign (.const (.bool false)), none⟩])
  (.seq
  (.seq
  (.reg [
    ⟨some 6, .move (.tmp 0), none⟩,
    ⟨some 7, .call { callee := .builtin .len, args := #[.tmp 6], argTypes := #[22] }, none⟩,
    ⟨some 8, .move (.tmp 1), none⟩,
    ⟨some 9, .call { callee := .builtin .len, args := #[.tmp 8], argTypes := #[22] }, none⟩,
    ⟨some 10, .binOp .neq 3 (.tmp 7) (.tmp 9) 3, none⟩])
  (.cond (.tmp 10)
    (.seq
    (.reg [
      ⟨some 4, .assign (.const (.bool false)), none⟩])
    .ret)
    .skip))
  (.seq
  (.seq
  (.reg [
    ⟨some 11, .move (.tmp 0), none⟩,
    ⟨some 12, .call { callee := .builtin .len, args := #[.tmp 11], argTypes := #[22] }, none⟩,
    ⟨some 13, .move (.const (.int .i64 0)), none⟩])
  (.block 0
  (.loop
    (.seq
    (.reg [
      ⟨some 14, .binOp .lss 3 (.tmp 13) (.tmp 12) 3, none⟩])
    (.seq
    (.cond (.tmp 14)
      .skip
      (.exit 0))
    (.seq
    (.block 1
    (.seq
    (.reg [
      ⟨some 15, .move (.tmp 13), none⟩,
      ⟨some 5, .assign (.tmp 15), none⟩])
    (.seq
    (.raw (.region 6 rg38_0 true))
    (.cond (.tmp 24)
      (.seq
      (.reg [
        ⟨some 4, .assign (.const (.bool false)), none⟩])
      .ret)
      .skip))))
    (.reg [
      ⟨some 25, .binOp .add 3 (.tmp 13) (.const (.int .i64 1)) 3, none⟩,
      ⟨some 13, .move (.tmp 25), none⟩])))))))
  (.seq
  (.reg [
    ⟨some 4, .assign (.const (.bool true)), none⟩])
  .ret))))
theorem hd38 : Try.f38.body.map dec = some c38 := by kernel_rfl
theorem e38 {R : AV → AH → Prop} {h : AH} (x0 x1 : AV) (H : h.wf → AI Try.prog c38 (RetQ Try.prog [.tmp 4] R) [x0, x1, un, un, un, un, un, un, un, un, un, un, un, un, un, un, un, un, un, un, un, un, un, un, un, un] h) : AC Try.prog 38 [x0, x1] h R :=
  AC_of' (rs := [.tmp 4]) Try.func38 (by kernel_rfl) hd38 Try.ntmps38 rfl H
theorem dz38_0 {h0 : AH} {L : List It} {Q : Exit → List AV → List It → Prop} {a : List AV} {id : Nat} (H : LX Try.prog ⟨[], []⟩ h0 L L (.c (⟨some 16, .move (.tmp 0), none⟩, .p) <| .c (⟨some 17, .move (.tmp 5), none⟩, .p) <| .c (⟨some 18, .indexAddr 22 (.tmp 16) (.tmp 17), none⟩, .p) <| .c (⟨some 19, .load 3 (.tmp 18), none⟩, .l) <| .c (⟨some 20, .move (.tmp 1), none⟩, .p) <| .c (⟨some 21, .move (.tmp 5), none⟩, .p) <| .c (⟨some 22, .indexAddr 22 (.tmp 20) (.tmp 21), none⟩, .p) <| .c (⟨some 23, .load 3 (.tmp 22), none⟩, .l) <| .c (⟨some 24, .binOp .neq 3 (.tmp 19) (.tmp 23) 3, none⟩, .p) <| .n) Q a) : LI Try.prog h0 L (.raw (.region id rg38_0 true)) Q a :=
  LI_draw (.c (0, .p) <| .c (1, .p) <| .c (2, .p) <| .c (3, .l) <| .c (4, .p) <| .c (5, .p) <| .c (6, .p) <| .c (7, .l) <| .c (8, .p) <| .n) [] (by kernel_rfl) (by kernel_rfl) (by kernel_rfl) H
theorem dr38_0 (m : Nat) {Q : Exit → List AV → AH → Prop} {a : List AV} {h : AH} {id : Nat} (H : AX Try.prog m h [(⟨some 16, .move (.tmp 0), none⟩, true),
  (⟨some 17, .move (.tmp 5), none⟩, true),
  (⟨some 18, .indexAddr 22 (.tmp 16) (.tmp 17), none⟩, true),
  (⟨some 19, .load 3 (.tmp 18), none⟩, true),
  (⟨some 20, .move (.tmp 1), none⟩, true),
  (⟨some 21, .move (.tmp 5), none⟩, true),
  (⟨some 22, .indexAddr 22 (.tmp 20) (.tmp 21), none⟩, true),
  (⟨some 23, .load 3 (.tmp 22), none⟩, true),
  (⟨some 24, .binOp .neq 3 (.tmp 19) (.tmp 23) 3, none⟩, true)] (fun a' h' => Q .normal a' h') a h) : AI Try.prog (.raw (.region id rg38_0 true)) Q a h :=
  AI_draw [(0, true), (1, true), (2, true), (3, true), (4, true), (5, true), (6, true), (7, true), (8, true)] m (by kernel_rfl) (by kernel_rfl) (by kernel_rfl) H

/-- impl.lengthOk -/
def c60 : IC :=
  (.seq
  (.reg [
    ⟨some 2, .assign (.const (.bool false)), none⟩])
  (.seq
  (.reg [
    ⟨some 3, .move (.tmp 0), none⟩,
    ⟨some 4, .call { callee := .value (.func 65), args := #[.tmp 3, .const (.int .i64 0), .const (.int .i64 8)], argTypes := #[3, 3, 3] }, none⟩,
    ⟨some 2, .assign (.tmp 4), none⟩])
  .ret))
theorem hd60 : Try.f60.body.map dec = some c60 := by kernel_rfl
theorem e60 {R : AV → AH → Prop} {h : AH} (x0 : AV) (H : h.wf → AI Try.prog c60 (RetQ Try.prog [.tmp 2] R) [x0, un, un, un, un] h) : AC Try.prog 60 [x0] h R :=
  AC_of' (rs := [.tmp 2]) Try.func60 (by kernel_rfl) hd60 Try.ntmps60 rfl H

/-- impl.CountStars$1 -/
def c79 : IC :=
  (.seq
  (.reg [
    ⟨some 3, .assign (.const (.bool false)), none⟩])
  (.seq
  (.reg [
    ⟨some 4, .load 3 (.tmp 1), none⟩,
    ⟨some 5, .binOp .add 3 (.tmp 4) (.const (.int .i64 1)) 3, none⟩,
    ⟨none, .store 3 (.tmp 1) (.tmp 5), none⟩])
  (.seq
  (.reg [
    ⟨some 3, .assign (.const (.bool false)), none⟩])
  .ret)))
theorem hd79 : Try.f79.body.map dec = some c79 := by kernel_rfl
theorem e79 {R : AV → AH → Prop} {h : AH} (x0 x1 : AV) (H : h.wf → AI Try.prog c79 (RetQ Try.prog [.tmp 3] R) [x0, x1, un, un, un, un] h) : AC Try.prog 79 [x0, x1] h R :=
  AC_of' (rs := [.tmp 3]) Try.func79 (by kernel_rfl) hd79 Try.ntmps79 rfl H

/-- impl.CountStars -/
def c44 : IC :=
  (.seq
  (.reg [
    ⟨some 4, .assign (.const (.int .i64 0)), none⟩,
    ⟨some 5, .assign (.const (.bool false)), none⟩])
  (.seq
  (.seq
  (.reg [
    ⟨some 7, .move (.tmp 0), none⟩,
    ⟨some 8, .call { callee := .value (.func 59), args := #[.tmp 7], argTypes := #[3] }, none⟩,
    ⟨some 9, .unOp .not 4 (.tmp 8), none⟩,
    ⟨some 10, .move (.tmp 9), none⟩,
    ⟨some 11, .move (.tmp 1), some (10, false)⟩,
    ⟨some 12, .call { callee := .value (.func 60), args := #[.tmp 11], argTypes := #[3] }, some (10, false)⟩,
    ⟨some 13, .unOp .not 4 (.tmp 12), some (10, false)⟩,
    ⟨some 14, .pick (.tmp 10) (.const (.bool true)) (.tmp 13), none⟩])
  (.cond (.tmp 14)
    (.seq
    (.reg [
      ⟨some 4, .assign (.const (.int .i64 0)), none⟩,
      ⟨some 5, .assign (.const (.bool false)), none⟩])
    .ret)
    .skip))
  (.seq
  (.reg [
    ⟨some 6, .alloc 3, none⟩,
    ⟨none, .store 3 (.tmp 6) (.const (.int .i64 0)), none⟩])
  (.seq
  (.reg [
    ⟨some 15, .move (.tmp 0), none⟩,
    ⟨some 16, .move (.tmp 1), none⟩,
    ⟨some 17, .buildSlice 22 1 #[(0, .const (.int .i64 1))], none⟩,
    ⟨some 18, .makeFunc (.func 79) #[] #[.tmp 6], none⟩,
    ⟨some 19, .call { callee := .value (.func 70), args := #[.tmp 15, .tmp 16, .tmp 17, .tmp 18], argTypes := #[3, 3, 22, 38] }, none⟩])
  (.seq
  (.reg [
    ⟨some 20, .load 3 (.tmp 6), none⟩,
    ⟨some 4, .assign (.tmp 20), none⟩,
    ⟨some 5, .assign (.const (.bool true)), none⟩])
  .ret)))))
theorem hd44 : Try.f44.body.map dec = some c44 := by kernel_rfl
theorem e44 {R : AV → AH → Prop} {h : AH} (x0 x1 : AV) (H : h.wf → AI Try.prog c44 (RetQ Try.prog [.tmp 4, .tmp 5] R) [x0, x1, un, un, un, un, un, un, un, un, un, un, un, un, un, un, un, un, un, un, un] h) : AC Try.prog 44 [x0, x1] h R :=
  AC_of' (rs := [.tmp 4, .tmp 5]) Try.func44 (by kernel_rfl) hd44 Try.ntmps44 rfl H

noncomputable def rg93_0 : Array Oper := rawAt Try.f93 0
noncomputable def rg93_1 : Array Oper := rawAt Try.f93 1
noncomputable def rg93_2 : Array Oper := rawAt Try.f93 2
/-- (*spec.l1Cur).next -/
noncomputable def c93 : IC :=
  (.seq
  (.reg [
    ⟨some 2, .assign (.const (.int .i64 0)), none⟩])
  (.seq
  (.reg [
    ⟨some 3, .assign (.const (.int .i64 0)), none⟩])
  (.seq
  (.seq
  (.raw (.region 2 rg93_0 true))
  (.cond (.tmp 13)
    (.raw (.region 3 rg93_1 true))
    .skip))
  (.seq
  (.reg [
    ⟨some 25, .move (.tmp 0), none⟩,
    ⟨some 26, .nilCheck (.tmp 25), none⟩,
    ⟨some 27, .fieldAddr 61 (.tmp 26) 1, none⟩,
    ⟨some 28, .load 3 (.tmp 27), none⟩,
    ⟨some 29, .binOp .add 3 (.tmp 28) (.const (.int .i64 1)) 3, none⟩,
    ⟨some 30, .nilCheck (.tmp 25), none⟩,
    ⟨some 31, .fieldAddr 61 (.tmp 30) 1, none⟩,
    ⟨none, .store 3 (.tmp 31) (.tmp 29), none⟩])
  (.seq
  (.reg [
    ⟨some 32, .move (.tmp 0), none⟩,
    ⟨some 33, .move (.tmp 0), none⟩,
    ⟨some 34, .nilCheck (.tmp 33), none⟩,
    ⟨some 35, .fieldAddr 61 (.tmp 34) 2, none⟩,
    ⟨some 36, .load 59 (.tmp 35), none⟩,
    ⟨some 37, .binOp .mul 59 (.tmp 36) (.const (.int .u64 6364136223846793005)) 59, none⟩,
    ⟨some 38, .move (.tmp 3), none⟩,
    ⟨some 39, .convert 3 59 (.tmp 38), none⟩,
    ⟨some 40, .binOp .add 59 (.tmp 37) (.tmp 39) 59, none⟩,
    ⟨some 41, .binOp .add 59 (.tmp 40) (.const (.int .u64 1442695040888963407)) 59, none⟩,
    ⟨some 42, .nilCheck (.tmp 32), none⟩,
    ⟨some 43, .fieldAddr 61 (.tmp 42) 2, none⟩,
    ⟨none, .store 59 (.tmp 43) (.tmp 41), none⟩])
  (.seq
  (.seq
  (.raw (.region 6 rg93_2 true))
  (.cond (.tmp 53)
    (.seq
    (.reg [
      ⟨some 54, .move (.tmp 3), none⟩,
      ⟨some 2, .assign (.tmp 54), none⟩])
    .ret)
    .skip))
  (.seq
  (.reg [
    ⟨some 55, .move (.tmp 0), none⟩,
    ⟨some 56, .nilCheck (.tmp 55), none⟩,
    ⟨some 57, .fieldAddr 61 (.tmp 56) 2, none⟩,
    ⟨some 58, .load 59 (.tmp 57), none⟩,
    ⟨some 59, .binOp .shr 59 (.tmp 58) (.const (.int .u64 40)) 67, none⟩,
    ⟨some 60, .binOp .and 59 (.tmp 59) (.const (.int .u64 255)) 59, none⟩,
    ⟨some 61, .convert 59 3 (.tmp 60), none⟩,
    ⟨some 2, .assign (.tmp 61), none⟩])
  .ret)))))))
theorem hd93 : Try.f93.body.map dec = some c93 := by kernel_rfl
theorem e93 {R : AV → AH → Prop} {h : AH} (x0 : AV) (H : h.wf → AI Try.prog c93 (RetQ Try.prog [.tmp 2] R) [x0, un, un, un, un, un, un, un, un, un, un, un, un, un, un, un, un, un, un, un, un, un, un, un, un, un, un, un, un, un, un, un, un, un, un, un, un, un, un, un, un, un, un, un, un, un, un, un, un, un, un, un, un, un, un, un, un, un, un, un, un, un] h) : AC Try.prog 93 [x0] h R :=
  AC_of' (rs := [.tmp 2]) Try.func93 (by kernel_rfl) hd93 Try.ntmps93 rfl H
theorem dz93_0 {h0 : AH} {L : List It} {Q : Exit → List AV → List It → Prop} {a : List AV} {id : Nat} (H : LX Try.prog ⟨[], []⟩ h0 L L (.c (⟨some 4, .move (.tmp 0), none⟩, .p) <| .c (⟨some 5, .nilCheck (.tmp 4), none⟩, .p) <| .c (⟨some 6, .fieldAddr 61 (.tmp 5) 1, none⟩, .p) <| .c (⟨some 7, .load 3 (.tmp 6), none⟩, .l) <| .c (⟨some 8, .move (.tmp 0), none⟩, .p) <| .c (⟨some 9, .nilCheck (.tmp 8), none⟩, .p) <| .c (⟨some 10, .fieldAddr 61 (.tmp 9) 0, none⟩, .p) <| .c (⟨some 11, .load 35 (.tmp 10), none⟩, .l) <| .c (⟨some 12, .call { callee := .builtin .len, args := #[.tmp 11], argTypes := #[35] }, none⟩, .p) <| .c (⟨some 13, .binOp .lss 3 (.tmp 7) (.tmp 12) 3, none⟩, .p) <| .n) Q a) : LI Try.prog h0 L (.raw (.region id rg93_0 true)) Q a :=
  LI_draw (.c (0, .p) <| .c (1, .p) <| .c (2, .p) <| .c (3, .l) <| .c (4, .p) <| .c (5, .p) <| .c (6, .p) <| .c (7, .l) <| .c (8, .p) <| .c (9, .p) <| .n) [] (by kernel_rfl) (by kernel_rfl) (by kernel_rfl) H
theorem dr93_0 (m : Nat) {Q : Exit → List AV → AH → Prop} {a : List AV} {h : AH} {id : Nat} (H : AX Try.prog m h [(⟨some 4, .move (.tmp 0), none⟩, true),
  (⟨some 5, .nilCheck (.tmp 4), none⟩, true),
  (⟨some 6, .fieldAddr 61 (.tmp 5) 1, none⟩, true),
  (⟨some 7, .load 3 (.tmp 6), none⟩, true),
  (⟨some 8, .move (.tmp 0), none⟩, true),
  (⟨some 9, .nilCheck (.tmp 8), none⟩, true),
  (⟨some 10, .fieldAddr 61 (.tmp 9) 0, none⟩, true),
  (⟨some 11, .load 35 (.tmp 10), none⟩, true),
  (⟨some 12, .call { callee := .builtin .len, args := #[.tmp 11], argTypes := #[35] }, none⟩, true),
  (⟨some 13, .binOp .lss 3 (.tmp 7) (.tmp 12) 3, none⟩, true)] (fun a' h' => Q .normal a' h') a h) : AI Try.prog (.raw (.region id rg93_0 true)) Q a h :=
  AI_draw [(0, true), (1, true), (2, true), (3, true), (4, true), (5, true), (6, true), (7, true), (8, true), (9, true)] m (by kernel_rfl) (by kernel_rfl) (by kernel_rfl) H
theorem dz93_1 {h0 : AH} {L : List It} {Q : Exit → List AV → List It → Prop} {a : List AV} {id : Nat} (H : LX Try.prog ⟨[], []⟩ h0 L L (.c (⟨some 14, .move (.tmp 0), none⟩, .p) <| .c (⟨some 15, .nilCheck (.tmp 14), none⟩, .p) <| .c (⟨some 16, .fieldAddr 61 (.tmp 15) 0, none⟩, .p) <| .c (⟨some 17, .load 35 (.tmp 16), none⟩, .l) <| .c (⟨some 18, .move (.tmp 0), none⟩, .p) <| .c (⟨some 19, .nilCheck (.tmp 18), none⟩, .p) <| .c (⟨some 20, .fieldAddr 61 (.tmp 19) 1, none⟩, .p) <| .c (⟨some 21, .load 3 (.tmp 20), none⟩, .l) <| .c (⟨some 22, .indexAddr 35 (.tmp 17) (.tmp 21), none⟩, .p) <| .c (⟨some 23, .load 5 (.tmp 22), none⟩, .l) <| .c (⟨some 24, .convert 5 3 (.tmp 23), none⟩, .p) <| .c (⟨some 3, .assign (.tmp 24), none⟩, .p) <| .n) Q a) : LI Try.prog h0 L (.raw (.region id rg93_1 true)) Q a :=
  LI_draw (.c (0, .p) <| .c (1, .p) <| .c (2, .p) <| .c (3, .l) <| .c (4, .p) <| .c (5, .p) <| .c (6, .p) <| .c (7, .l) <| .c (8, .p) <| .c (9, .l) <| .c (10, .p) <| .c (11, .p) <| .n) [] (by kernel_rfl) (by kernel_rfl) (by kernel_rfl) H
theorem dr93_1 (m : Nat) {Q : Exit → List AV → AH → Prop} {a : List AV} {h : AH} {id : Nat} (H : AX Try.prog m h [(⟨some 14, .move (.tmp 0), none⟩, true),
  (⟨some 15, .nilCheck (.tmp 14), none⟩, true),
  (⟨some 16, .fieldAddr 61 (.tmp 15) 0, none⟩, true),
  (⟨some 17, .load 35 (.tmp 16), none⟩, true),
  (⟨some 18, .move (.tmp 0), none⟩, true),
  (⟨some 19, .nilCheck (.tmp 18), none⟩, true),
  (⟨some 20, .fieldAddr 61 (.tmp 19) 1, none⟩, true),
  (⟨some 21, .load 3 (.tmp 20), none⟩, true),
  (⟨some 22, .indexAddr 35 (.tmp 17) (.tmp 21), none⟩, true),
  (⟨some 23, .load 5 (.tmp 22), none⟩, true),
  (⟨some 24, .convert 5 3 (.tmp 23), none⟩, true),
  (⟨some 3, .assign (.tmp 24), none⟩, true)] (fun a' h' => Q .normal a' h') a h) : AI Try.prog (.raw (.region id rg93_1 true)) Q a h :=
  AI_draw [(0, true), (1, true), (2, true), (3, true), (4, true), (5, true), (6, true), (7, true), (8, true), (9, true), (10, true), (11, true)] m (by kernel_rfl) (by kernel_rfl) (by kernel_rfl) H
theorem dz93_2 {h0 : AH} {L : List It} {Q : Exit → List AV → List It → Prop} {a : List AV} {id : Nat} (H : LX Try.prog ⟨[], []⟩ h0 L L (.c (⟨some 44, .move (.tmp 0), none⟩, .p) <| .c (⟨some 45, .nilCheck (.tmp 44), none⟩, .p) <| .c (⟨some 46, .fieldAddr 61 (.tmp 45) 1, none⟩, .p) <| .c (⟨some 47, .load 3 (.tmp 46), none⟩, .l) <| .c (⟨some 48, .move (.tmp 0), none⟩, .p) <| .c (⟨some 49, .nilCheck (.tmp 48), none⟩, .p) <| .c (⟨some 50, .fieldAddr 61 (.tmp 49) 0, none⟩, .p) <| .c (⟨some 51, .load 35 (.tmp 50), none⟩, .l) <| .c (⟨some 52, .call { callee := .builtin .len, args := #[.tmp 51], argTypes := #[35] }, none⟩, .p) <| .c (⟨some 53, .binOp .leq 3 (.tmp 47) (.tmp 52) 3, none⟩, .p) <| .n) Q a) : LI Try.prog h0 L (.raw (.region id rg93_2 true)) Q a :=
  LI_draw (.c (0, .p) <| .c (1, .p) <| .c (2, .p) <| .c (3, .l) <| .c (4, .p) <| .c (5, .p) <| .c (6, .p) <| .c (7, .l) <| .c (8, .p) <| .c (9, .p) <| .n) [] (by kernel_rfl) (by kernel_rfl) (by kernel_rfl) H
theorem dr93_2 (m : Nat) {Q : Exit → List AV → AH → Prop} {a : List AV} {h : AH} {id : Nat} (H : AX Try.prog m h [(⟨some 44, .move (.tmp 0), none⟩, true),
  (⟨some 45, .nilCheck (.tmp 44), none⟩, true),
  (⟨some 46, .fieldAddr 61 (.tmp 45) 1, none⟩, true),
  (⟨some 47, .load 3 (.tmp 46), none⟩, true),
  (⟨some 48, .move (.tmp 0), none⟩, true),
  (⟨some 49, .nilCheck (.tmp 48), none⟩, true),
  (⟨some 50, .fieldAddr 61 (.tmp 49) 0, none⟩, true),
  (⟨some 51, .load 35 (.tmp 50), none⟩, true),
  (⟨some 52, .call { callee := .builtin .len, args := #[.tmp 51], argTypes := #[35] }, none⟩, true),
  (⟨some 53, .binOp .leq 3 (.tmp 47) (.tmp 52) 3, none⟩, true)] (fun a' h' => Q .normal a' h') a h) : AI Try.prog (.raw (.region id rg93_2 true)) Q a h :=
  AI_draw [(0, true), (1, true), (2, true), (3, true), (4, true), (5, true), (6, true), (7, true), (8, true), (9, true)] m (by kernel_rfl) (by kernel_rfl) (by kernel_rfl) H

/-- (*spec.l1Cur).pick -/
def c73 : IC :=
  (.seq
  (.reg [
    ⟨some 4, .assign (.const (.int .i64 0)), none⟩])
  (.seq
  (.seq
  (.reg [
    ⟨some 6, .move (.tmp 1), none⟩,
    ⟨some 7, .binOp .leq 3 (.tmp 6) (.const (.int .i64 1)) 3, none⟩])
  (.cond (.tmp 7)
    (.seq
    (.reg [
      ⟨some 4, .assign (.const (.int .i64 0)), none⟩])
    .ret)
    .skip))
  (.seq
  (.reg [
    ⟨some 8, .move (.tmp 0), none⟩,
    ⟨some 9, .call { callee := .value (.func 93), args := #[.tmp 8], argTypes := #[58] }, none⟩,
    ⟨some 5, .assign (.tmp 9), none⟩])
  (.seq
  (.seq
  (.reg [
    ⟨some 10, .move (.tmp 1), none⟩,
    ⟨some 11, .binOp .gtr 3 (.tmp 10) (.const (.int .i64 200)) 3, none⟩])
  (.cond (.tmp 11)
    (.reg [
      ⟨some 12, .move (.tmp 5), none⟩,
      ⟨some 13, .binOp .mul 3 (.tmp 12) (.const (.int .i64 256)) 3, none⟩,
      ⟨some 14, .move (.tmp 0), none⟩,
      ⟨some 15, .call { callee := .value (.func 93), args := #[.tmp 14], argTypes := #[58] }, none⟩,
      ⟨some 16, .binOp .add 3 (.tmp 13) (.tmp 15) 3, none⟩,
      ⟨some 5, .assign (.tmp 16), none⟩])
    .skip))
  (.seq
  (.reg [
    ⟨some 17, .move (.tmp 5), none⟩,
    ⟨some 18, .move (.tmp 1), none⟩,
    ⟨some 19, .binOp .rem 3 (.tmp 17) (.tmp 18) 3, none⟩,
    ⟨some 4, .assign (.tmp 19), none⟩])
  .ret)))))
theorem hd73 : Try.f73.body.map dec = some c73 := by kernel_rfl
theorem e73 {R : AV → AH → Prop} {h : AH} (x0 x1 : AV) (H : h.wf → AI Try.prog c73 (RetQ Try.prog [.tmp 4] R) [x0, x1, un, un, un, un, un, un, un, un, un, un, un, un, un, un, un, un, un, un] h) : AC Try.prog 73 [x0, x1] h R :=
  AC_of' (rs := [.tmp 4]) Try.func73 (by kernel_rfl) hd73 Try.ntmps73 rfl H

/-- (*spec.l1Cur).among -/
def c74 : IC :=
  (.seq
  (.reg [
    ⟨some 4, .assign (.const (.int .i64 0)), none⟩])
  (.seq
  (.reg [
    ⟨some 5, .move (.tmp 1), none⟩,
    ⟨some 6, .move (.tmp 0), none⟩,
    ⟨some 7, .move (.tmp 1), none⟩,
    ⟨some 8, .call { callee := .builtin .len, args := #[.tmp 7], argTypes := #[22] }, none⟩,
    ⟨some 9, .call { callee := .value (.func 73), args := #[.tmp 6, .tmp 8], argTypes := #[58, 3] }, none⟩,
    ⟨some 10, .indexAddr 22 (.tmp 5) (.tmp 9), none⟩,
    ⟨some 11, .load 3 (.tmp 10), none⟩,
    ⟨some 4, .assign (.tmp 11), none⟩])
  .ret))
theorem hd74 : Try.f74.body.map dec = some c74 := by kernel_rfl
theorem e74 {R : AV → AH → Prop} {h : AH} (x0 x1 : AV) (H : h.wf → AI Try.prog c74 (RetQ Try.prog [.tmp 4] R) [x0, x1, un, un, un, un, un, un, un, un, un, un] h) : AC Try.prog 74 [x0, x1] h R :=
  AC_of' (rs := [.tmp 4]) Try.func74 (by kernel_rfl) hd74 Try.ntmps74 rfl H

/-- (*spec.l1Cur).one -/
def c96 : IC :=
  (.seq
  (.reg [
    ⟨some 4, .assign (.const (.bool false)), none⟩])
  (.seq
  (.reg [
    ⟨some 5, .move (.tmp 0), none⟩,
    ⟨some 6, .move (.tmp 1), none⟩,
    ⟨some 7, .call { callee := .value (.func 73), args := #[.tmp 5, .tmp 6], argTypes := #[58, 3] }, none⟩,
    ⟨some 8, .binOp .eql 3 (.tmp 7) (.const (.int .i64 0)) 3, none⟩,
    ⟨some 4, .assign (.tmp 8), none⟩])
  .ret))
theorem hd96 : Try.f96.body.map dec = some c96 := by kernel_rfl
theorem e96 {R : AV → AH → Prop} {h : AH} (x0 x1 : AV) (H : h.wf → AI Try.prog c96 (RetQ Try.prog [.tmp 4] R) [x0, x1, un, un, un, un, un, un, un] h) : AC Try.prog 96 [x0, x1] h R :=
  AC_of' (rs := [.tmp 4]) Try.func96 (by kernel_rfl) hd96 Try.ntmps96 rfl H

/-- (*spec.l1Cur).short -/
def c95 : IC :=
  (.seq
  (.reg [
    ⟨some 2, .assign (.const (.int .i64 0)), none⟩])
  (.seq
  (.seq
  (.reg [
    ⟨some 3, .move (.tmp 0), none⟩,
    ⟨some 4, .call { callee := .value (.func 96), args := #[.tmp 3, .const (.int .i64 12)], argTypes := #[58, 3] }, none⟩])
  (.cond (.tmp 4)
    (.seq
    (.reg [
      ⟨some 5, .move (.tmp 0), none⟩,
      ⟨some 6, .buildSlice 22 4 #[(0, .const (.int .i64 0)), (1, .const (.int .i64 (-1))), (2, .const (.int .i64 100)), (3, .const (.int .i64 101))], none⟩,
      ⟨some 7, .call { callee := .value (.func 74), args := #[.tmp 5, .tmp 6], argTypes := #[58, 22] }, none⟩,
      ⟨some 2, .assign (.tmp 7), none⟩])
    .ret)
    .skip))
  (.seq
  (.reg [
    ⟨some 8, .move (.tmp 0), none⟩,
    ⟨some 9, .move (.tmp 0), none⟩,
    ⟨some 10, .buildSlice 22 3 #[(0, .const (.int .i64 12)), (1, .const (.int .i64 40)), (2, .const (.int .i64 100))], none⟩,
    ⟨some 11, .call { callee := .value (.func 74), args := #[.tmp 9, .tmp 10], argTypes := #[58, 22] }, none⟩,
    ⟨some 12, .call { callee := .value (.func 73), args := #[.tmp 8, .tmp 11], argTypes := #[58, 3] }, none⟩,
    ⟨some 13, .binOp .add 3 (.const (.int .i64 1)) (.tmp 12) 3, none⟩,
    ⟨some 2, .assign (.tmp 13), none⟩])
  .ret)))
theorem hd95 : Try.f95.body.map dec = some c95 := by kernel_rfl
theorem e95 {R : AV → AH → Prop} {h : AH} (x0 : AV) (H : h.wf → AI Try.prog c95 (RetQ Try.prog [.tmp 2] R) [x0, un, un, un, un, un, un, un, un, un, un, un, un, un] h) : AC Try.prog 95 [x0] h R :=
  AC_of' (rs := [.tmp 2]) Try.func95 (by kernel_rfl) hd95 Try.ntmps95 rfl H

/-- spec.DrawStarLength -/
def c78 : IC :=
  (.seq
  (.reg [
    ⟨some 2, .assign (.const (.int .i64 0)), none⟩])
  (.seq
  (.reg [
    ⟨some 4, .move (.tmp 0), none⟩,
    ⟨some 5, .build 61 #[(0, .tmp 4)], none⟩,
    ⟨some 6, .box 61 (.tmp 5), none⟩,
    ⟨some 3, .assign (.tmp 6), none⟩])
  (.seq
  (.reg [
    ⟨some 7, .move (.tmp 3), none⟩,
    ⟨some 8, .call { callee := .value (.func 95), args := #[.tmp 7], argTypes := #[58] }, none⟩,
    ⟨some 2, .assign (.tmp 8), none⟩])
  .ret)))
theorem hd78 : Try.f78.body.map dec = some c78 := by kernel_rfl
theorem e78 {R : AV → AH → Prop} {h : AH} (x0 : AV) (H : h.wf → AI Try.prog c78 (RetQ Try.prog [.tmp 2] R) [x0, un, un, un, un, un, un, un, un] h) : AC Try.prog 78 [x0] h R :=
  AC_of' (rs := [.tmp 2]) Try.func78 (by kernel_rfl) hd78 Try.ntmps78 rfl H

/-- spec.DrawShortestStar -/
def c48 : IC :=
  (.seq
  (.reg [
    ⟨some 2, .assign (.const (.int .i64 0)), none⟩])
  (.seq
  (.reg [
    ⟨some 3, .move (.tmp 0), none⟩,
    ⟨some 4, .call { callee := .value (.func 78), args := #[.tmp 3], argTypes := #[35] }, none⟩,
    ⟨some 2, .assign (.tmp 4), none⟩])
  .ret))
theorem hd48 : Try.f48.body.map dec = some c48 := by kernel_rfl
theorem e48 {R : AV → AH → Prop} {h : AH} (x0 : AV) (H : h.wf → AI Try.prog c48 (RetQ Try.prog [.tmp 2] R) [x0, un, un, un, un] h) : AC Try.prog 48 [x0] h R :=
  AC_of' (rs := [.tmp 2]) Try.func48 (by kernel_rfl) hd48 Try.ntmps48 rfl H

/-- math/bits.Len32 -/
def c98 : IC :=
  (.seq
  (.reg [
    ⟨some 2, .assign (.const (.int .i64 0)), none⟩])
  (.seq
  (.seq
  (.reg [
    ⟨some 3, .move (.tmp 0), none⟩,
    ⟨some 4, .binOp .geq 75 (.tmp 3) (.const (.int .u32 65536)) 75, none⟩])
  (.cond (.tmp 4)
    (.seq
    (.reg [
      ⟨some 5, .move (.tmp 0), none⟩,
      ⟨some 6, .binOp .shr 75 (.tmp 5) (.const (.int .u64 16)) 67, none⟩,
      ⟨some 0, .assign (.tmp 6), none⟩])
    (.reg [
      ⟨some 2, .assign (.const (.int .i64 16)), none⟩]))
    .skip))
  (.seq
  (.seq
  (.reg [
    ⟨some 7, .move (.tmp 0), none⟩,
    ⟨some 8, .binOp .geq 75 (.tmp 7) (.const (.int .u32 256)) 75, none⟩])
  (.cond (.tmp 8)
    (.seq
    (.reg [
      ⟨some 9, .move (.tmp 0), none⟩,
      ⟨some 10, .binOp .shr 75 (.tmp 9) (.const (.int .u64 8)) 67, none⟩,
      ⟨some 0, .assign (.tmp 10), none⟩])
    (.reg [
      ⟨some 11, .move (.tmp 2), none⟩,
      ⟨some 12, .binOp .add 3 (.tmp 11) (.const (.int .i64 8)) 3, none⟩,
      ⟨some 2, .assign (.tmp 12), none⟩]))
    .skip))
  (.seq
  (.reg [
    ⟨some 13, .move (.tmp 2), none⟩,
    ⟨some 14, .move (.tmp 0), none⟩,
    ⟨some 15, .convert 75 5 (.tmp 14), none⟩,
    ⟨some 16, .index 9 (.const (.string { data := #[0, 1, 2, 2, 3, 3, 3, 3, 4, 4, 4, 4, 4, 4, 4, 4, 5, 5, 5, 5, 5, 5, 5, 5, 5, 5, 5, 5, 5, 5, 5, 5, 6, 6, 6, 6, 6, 6, 6, 6, 6, 6, 6, 6, 6, 6, 6, 6, 6, 6, 6, 6, 6, 6, 6, 6, 6, 6, 6, 6, 6, 6, 6, 6, 7, 7, 7, 7, 7, 7, 7, 7, 7, 7, 7, 7, 7, 7, 7, 7, 7, 7, 7, 7, 7, 7, 7, 7, 7, 7, 7, 7, 7, 7, 7, 7, 7, 7, 7, 7, 7, 7, 7, 7, 7, 7, 7, 7, 7, 7, 7, 7, 7, 7, 7, 7, 7, 7, 7, 7, 7, 7, 7, 7, 7, 7, 7, 7, 8, 8, 8, 8, 8, 8, 8, 8, 8, 8, 8, 8, 8, 8, 8, 8, 8, 8, 8, 8, 8, 8, 8, 8, 8, 8, 8, 8, 8, 8, 8, 8, 8, 8, 8, 8, 8, 8, 8, 8, 8, 8, 8, 8, 8, 8, 8, 8, 8, 8, 8, 8, 8, 8, 8, 8, 8, 8, 8, 8, 8, 8, 8, 8, 8, 8, 8, 8, 8, 8, 8, 8, 8, 8, 8, 8, 8, 8, 8, 8, 8, 8, 8, 8, 8, 8, 8, 8, 8, 8, 8, 8, 8, 8, 8, 8, 8, 8, 8, 8, 8, 8, 8, 8, 8, 8, 8, 8, 8, 8, 8, 8, 8, 8, 8, 8, 8, 8, 8, 8, 8, 8, 8, 8, 8, 8, 8, 8] })) (.tmp 15), none⟩,
    ⟨some 17, .convert 5 3 (.tmp 16), none⟩,
    ⟨some 18, .binOp .add 3 (.tmp 13) (.tmp 17) 3, none⟩,
    ⟨some 2, .assign (.tmp 18), none⟩])
  .ret))))
theorem hd98 : Try.f98.body.map dec = some c98 := by kernel_rfl
theorem e98 {R : AV → AH → Prop} {h : AH} (x0 : AV) (H : h.wf → AI Try.prog c98 (RetQ Try.prog [.tmp 2] R) [x0, un, un, un, un, un, un, un, un, un, un, un, un, un, un, un, un, un, un] h) : AC Try.prog 98 [x0] h R :=
  AC_of' (rs := [.tmp 2]) Try.func98 (by kernel_rfl) hd98 Try.ntmps98 rfl H

/-- math/bits.Len64 -/
def c99 : IC :=
  (.seq
  (.reg [
    ⟨some 2, .assign (.const (.int .i64 0)), none⟩])
  (.seq
  (.seq
  (.reg [
    ⟨some 3, .move (.tmp 0), none⟩,
    ⟨some 4, .binOp .geq 59 (.tmp 3) (.const (.int .u64 4294967296)) 59, none⟩])
  (.cond (.tmp 4)
    (.seq
    (.reg [
      ⟨some 5, .move (.tmp 0), none⟩,
      ⟨some 6, .binOp .shr 59 (.tmp 5) (.const (.int .u64 32)) 67, none⟩,
      ⟨some 0, .assign (.tmp 6), none⟩])
    (.reg [
      ⟨some 2, .assign (.const (.int .i64 32)), none⟩]))
    .skip))
  (.seq
  (.seq
  (.reg [
    ⟨some 7, .move (.tmp 0), none⟩,
    ⟨some 8, .binOp .geq 59 (.tmp 7) (.const (.int .u64 65536)) 59, none⟩])
  (.cond (.tmp 8)
    (.seq
    (.reg [
      ⟨some 9, .move (.tmp 0), none⟩,
      ⟨some 10, .binOp .shr 59 (.tmp 9) (.const (.int .u64 16)) 67, none⟩,
      ⟨some 0, .assign (.tmp 10), none⟩])
    (.reg [
      ⟨some 11, .move (.tmp 2), none⟩,
      ⟨some 12, .binOp .add 3 (.tmp 11) (.const (.int .i64 16)) 3, none⟩,
      ⟨some 2, .assign (.tmp 12), none⟩]))
    .skip))
  (.seq
  (.seq
  (.reg [
    ⟨some 13, .move (.tmp 0), none⟩,
    ⟨some 14, .binOp .geq 59 (.tmp 13) (.const (.int .u64 256)) 59, none⟩])
  (.cond (.tmp 14)
    (.seq
    (.reg [
      ⟨some 15, .move (.tmp 0), none⟩,
      ⟨some 16, .binOp .shr 59 (.tmp 15) (.const (.int .u64 8)) 67, none⟩,
      ⟨some 0, .assign (.tmp 16), none⟩])
    (.reg [
      ⟨some 17, .move (.tmp 2), none⟩,
      ⟨some 18, .binOp .add 3 (.tmp 17) (.const (.int .i64 8)) 3, none⟩,
      ⟨some 2, .assign (.tmp 18), none⟩]))
    .skip))
  (.seq
  (.reg [
    ⟨some 19, .move (.tmp 2), none⟩,
    ⟨some 20, .move (.tmp 0), none⟩,
    ⟨some 21, .convert 59 5 (.tmp 20), none⟩,
    ⟨some 22, .index 9 (.const (.string { data := #[0, 1, 2, 2, 3, 3, 3, 3, 4, 4, 4, 4, 4, 4, 4, 4, 5, 5, 5, 5, 5, 5, 5, 5, 5, 5, 5, 5, 5, 5, 5, 5, 6, 6, 6, 6, 6, 6, 6, 6, 6, 6, 6, 6, 6, 6, 6, 6, 6, 6, 6, 6, 6, 6, 6, 6, 6, 6, 6, 6, 6, 6, 6, 6, 7, 7, 7, 7, 7, 7, 7, 7, 7, 7, 7, 7, 7, 7, 7, 7, 7, 7, 7, 7, 7, 7, 7, 7, 7, 7, 7, 7, 7, 7, 7, 7, 7, 7, 7, 7, 7, 7, 7, 7, 7, 7, 7, 7, 7, 7, 7, 7, 7, 7, 7, 7, 7, 7, 7, 7, 7, 7, 7, 7, 7, 7, 7, 7, 8, 8, 8, 8, 8, 8, 8, 8, 8, 8, 8, 8, 8, 8, 8, 8, 8, 8, 8, 8, 8, 8, 8, 8, 8, 8, 8, 8, 8, 8, 8, 8, 8, 8, 8, 8, 8, 8, 8, 8, 8, 8, 8, 8, 8, 8, 8, 8, 8, 8, 8, 8, 8, 8, 8, 8, 8, 8, 8, 8, 8, 8, 8, 8, 8, 8, 8, 8, 8, 8, 8, 8, 8, 8, 8, 8, 8, 8, 8, 8, 8, 8, 8, 8, 8, 8, 8, 8, 8, 8, 8, 8, 8, 8, 8, 8, 8, 8, 8, 8, 8, 8, 8, 8, 8, 8, 8, 8, 8, 8, 8, 8, 8, 8, 8, 8, 8, 8, 8, 8, 8, 8, 8, 8, 8, 8, 8, 8] })) (.tmp 21), none⟩,
    ⟨some 23, .convert 5 3 (.tmp 22), none⟩,
    ⟨some 24, .binOp .add 3 (.tmp 19) (.tmp 23) 3, none⟩,
    ⟨some 2, .assign (.tmp 24), none⟩])
  .ret)))))
theorem hd99 : Try.f99.body.map dec = some c99 := by kernel_rfl
theorem e99 {R : AV → AH → Prop} {h : AH} (x0 : AV) (H : h.wf → AI Try.prog c99 (RetQ Try.prog [.tmp 2] R) [x0, un, un, un, un, un, un, un, un, un, un, un, un, un, un, un, un, un, un, un, un, un, un, un, un] h) : AC Try.prog 99 [x0] h R :=
  AC_of' (rs := [.tmp 2]) Try.func99 (by kernel_rfl) hd99 Try.ntmps99 rfl H

/-- math/bits.Len -/
def c83 : IC :=
  (.seq
  (.reg [
    ⟨some 2, .assign (.const (.int .i64 0)), none⟩])
  (.seq
  (.cond (.const (.bool false))
    (.seq
    (.reg [
      ⟨some 3, .move (.tmp 0), none⟩,
      ⟨some 4, .convert 67 75 (.tmp 3), none⟩,
      ⟨some 5, .call { callee := .value (.func 98), args := #[.tmp 4], argTypes := #[75] }, none⟩,
      ⟨some 2, .assign (.tmp 5), none⟩])
    .ret)
    .skip)
  (.seq
  (.reg [
    ⟨some 6, .move (.tmp 0), none⟩,
    ⟨some 7, .call { callee := .value (.func 99), args := #[.tmp 6], argTypes := #[59] }, none⟩,
    ⟨some 2, .assign (.tmp 7), none⟩])
  .ret)))
theorem hd83 : Try.f83.body.map dec = some c83 := by kernel_rfl
theorem e83 {R : AV → AH → Prop} {h : AH} (x0 : AV) (H : h.wf → AI Try.prog c83 (RetQ Try.prog [.tmp 2] R) [x0, un, un, un, un, un, un, un] h) : AC Try.prog 83 [x0] h R :=
  AC_of' (rs := [.tmp 2]) Try.func83 (by kernel_rfl) hd83 Try.ntmps83 rfl H

noncomputable def rg100_0 : Array Oper := rawAt Try.f100 0
/-- math/bits.OnesCount32 -/
noncomputable def c100 : IC :=
  (.seq
  (.reg [
    ⟨some 2, .assign (.const (.int .i64 0)), none⟩])
  (.seq
  (.raw (.region 1 rg100_0 true))
  .ret))
theorem hd100 : Try.f100.body.map dec = some c100 := by kernel_rfl
theorem e100 {R : AV → AH → Prop} {h : AH} (x0 : AV) (H : h.wf → AI Try.prog c100 (RetQ Try.prog [.tmp 2] R) [x0, un, un, un, un, un, un, un, un, un, un, un, un, un, un, un, un, un, un, un, un] h) : AC Try.prog 100 [x0] h R :=
  AC_of' (rs := [.tmp 2]) Try.func100 (by kernel_rfl) hd100 Try.ntmps100 rfl H
theorem dz100_0 {h0 : AH} {L : List It} {Q : Exit → List AV → List It → Prop} {a : List AV} {id : Nat} (H : LX Try.prog ⟨[], []⟩ h0 L L (.c (⟨some 3, .move (.tmp 0), none⟩, .p) <| .c (⟨some 4, .binOp .shr 75 (.tmp 3) (.const (.int .u64 24)) 67, none⟩, .p) <| .c (⟨some 5, .index 9 (.const (.string { data := #[0, 1, 1, 2, 1, 2, 2, 3, 1, 2, 2, 3, 2, 3, 3, 4, 1, 2, 2, 3, 2, 3, 3, 4, 2, 3, 3, 4, 3, 4, 4, 5, 1, 2, 2, 3, 2, 3, 3, 4, 2, 3, 3, 4, 3, 4, 4, 5, 2, 3, 3, 4, 3, 4, 4, 5, 3, 4, 4, 5, 4, 5, 5, 6, 1, 2, 2, 3, 2, 3, 3, 4, 2, 3, 3, 4, 3, 4, 4, 5, 2, 3, 3, 4, 3, 4, 4, 5, 3, 4, 4, 5, 4, 5, 5, 6, 2, 3, 3, 4, 3, 4, 4, 5, 3, 4, 4, 5, 4, 5, 5, 6, 3, 4, 4, 5, 4, 5, 5, 6, 4, 5, 5, 6, 5, 6, 6, 7, 1, 2, 2, 3, 2, 3, 3, 4, 2, 3, 3, 4, 3, 4, 4, 5, 2, 3, 3, 4, 3, 4, 4, 5, 3, 4, 4, 5, 4, 5, 5, 6, 2, 3, 3, 4, 3, 4, 4, 5, 3, 4, 4, 5, 4, 5, 5, 6, 3, 4, 4, 5, 4, 5, 5, 6, 4, 5, 5, 6, 5, 6, 6, 7, 2, 3, 3, 4, 3, 4, 4, 5, 3, 4, 4, 5, 4, 5, 5, 6, 3, 4, 4, 5, 4, 5, 5, 6, 4, 5, 5, 6, 5, 6, 6, 7, 3, 4, 4, 5, 4, 5, 5, 6, 4, 5, 5, 6, 5, 6, 6, 7, 4, 5, 5, 6, 5, 6, 6, 7, 5, 6, 6, 7, 6, 7, 7, 8] })) (.tmp 4), none⟩, .p) <| .c (⟨some 6, .move (.tmp 0), none⟩, .p) <| .c (⟨some 7, .binOp .shr 75 (.tmp 6) (.const (.int .u64 16)) 67, none⟩, .p) <| .c (⟨some 8, .binOp .and 75 (.tmp 7) (.const (.int .u32 255)) 75, none⟩, .p) <| .c (⟨some 9, .index 9 (.const (.string { data := #[0, 1, 1, 2, 1, 2, 2, 3, 1, 2, 2, 3, 2, 3, 3, 4, 1, 2, 2, 3, 2, 3, 3, 4, 2, 3, 3, 4, 3, 4, 4, 5, 1, 2, 2, 3, 2, 3, 3, 4, 2, 3, 3, 4, 3, 4, 4, 5, 2, 3, 3, 4, 3, 4, 4, 5, 3, 4, 4, 5, 4, 5, 5, 6, 1, 2, 2, 3, 2, 3, 3, 4, 2, 3, 3, 4, 3, 4, 4, 5, 2, 3, 3, 4, 3, 4, 4, 5, 3, 4, 4, 5, 4, 5, 5, 6, 2, 3, 3, 4, 3, 4, 4, 5, 3, 4, 4, 5, 4, 5, 5, 6, 3, 4, 4, 5, 4, 5, 5, 6, 4, 5, 5, 6, 5, 6, 6, 7, 1, 2, 2, 3, 2, 3, 3, 4, 2, 3, 3, 4, 3, 4, 4, 5, 2, 3, 3, 4, 3, 4, 4, 5, 3, 4, 4, 5, 4, 5, 5, 6, 2, 3, 3, 4, 3, 4, 4, 5, 3, 4, 4, 5, 4, 5, 5, 6, 3, 4, 4, 5, 4, 5, 5, 6, 4, 5, 5, 6, 5, 6, 6, 7, 2, 3, 3, 4, 3, 4, 4, 5, 3, 4, 4, 5, 4, 5, 5, 6, 3, 4, 4, 5, 4, 5, 5, 6, 4, 5, 5, 6, 5, 6, 6, 7, 3, 4, 4, 5, 4, 5, 5, 6, 4, 5, 5, 6, 5, 6, 6, 7, 4, 5, 5, 6, 5, 6, 6, 7, 5, 6, 6, 7, 6, 7, 7, 8] })) (.tmp 8), none⟩, .p) <| .c (⟨some 10, .binOp .add 5 (.tmp 5) (.tmp 9) 5, none⟩, .p) <| .c (⟨some 11, .move (.tmp 0), none⟩, .p) <| .c (⟨some 12, .binOp .shr 75 (.tmp 11) (.const (.int .u64 8)) 67, none⟩, .p) <| .c (⟨some 13, .binOp .and 75 (.tmp 12) (.const (.int .u32 255)) 75, none⟩, .p) <| .c (⟨some 14, .index 9 (.const (.string { data := #[0, 1, 1, 2, 1, 2, 2, 3, 1, 2, 2, 3, 2, 3, 3, 4, 1, 2, 2, 3, 2, 3, 3, 4, 2, 3, 3, 4, 3, 4, 4, 5, 1, 2, 2, 3, 2, 3, 3, 4, 2, 3, 3, 4, 3, 4, 4, 5, 2, 3, 3, 4, 3, 4, 4, 5, 3, 4, 4, 5, 4, 5, 5, 6, 1, 2, 2, 3, 2, 3, 3, 4, 2, 3, 3, 4, 3, 4, 4, 5, 2, 3, 3, 4, 3, 4, 4, 5, 3, 4, 4, 5, 4, 5, 5, 6, 2, 3, 3, 4, 3, 4, 4, 5, 3, 4, 4, 5, 4, 5, 5, 6, 3, 4, 4, 5, 4, 5, 5, 6, 4, 5, 5, 6, 5, 6, 6, 7, 1, 2, 2, 3, 2, 3, 3, 4, 2, 3, 3, 4, 3, 4, 4, 5, 2, 3, 3, 4, 3, 4, 4, 5, 3, 4, 4, 5, 4, 5, 5, 6, 2, 3, 3, 4, 3, 4, 4, 5, 3, 4, 4, 5, 4, 5, 5, 6, 3, 4, 4, 5, 4, 5, 5, 6, 4, 5, 5, 6, 5, 6, 6, 7, 2, 3, 3, 4, 3, 4, 4, 5, 3, 4, 4, 5, 4, 5, 5, 6, 3, 4, 4, 5, 4, 5, 5, 6, 4, 5, 5, 6, 5, 6, 6, 7, 3, 4, 4, 5, 4, 5, 5, 6, 4, 5, 5, 6, 5, 6, 6, 7, 4, 5, 5, 6, 5, 6, 6, 7, 5, 6, 6, 7, 6, 7, 7, 8] })) (.tmp 13), none⟩, .p) <| .c (⟨some 15, .binOp .add 5 (.tmp 10) (.tmp 14) 5, none⟩, .p) <| .c (⟨some 16, .move (.tmp 0), none⟩, .p) <| .c (⟨some 17, .binOp .and 75 (.tmp 16) (.const (.int .u32 255)) 75, none⟩, .p) <| .c (⟨some 18, .index 9 (.const (.string { data := #[0, 1, 1, 2, 1, 2, 2, 3, 1, 2, 2, 3, 2, 3, 3, 4, 1, 2, 2, 3, 2, 3, 3, 4, 2, 3, 3, 4, 3, 4, 4, 5, 1, 2, 2, 3, 2, 3, 3, 4, 2, 3, 3, 4, 3, 4, 4, 5, 2, 3, 3, 4, 3, 4, 4, 5, 3, 4, 4, 5, 4, 5, 5, 6, 1, 2, 2, 3, 2, 3, 3, 4, 2, 3, 3, 4, 3, 4, 4, 5, 2, 3, 3, 4, 3, 4, 4, 5, 3, 4, 4, 5, 4, 5, 5, 6, 2, 3, 3, 4, 3, 4, 4, 5, 3, 4, 4, 5, 4, 5, 5, 6, 3, 4, 4, 5, 4, 5, 5, 6, 4, 5, 5, 6, 5, 6, 6, 7, 1, 2, 2, 3, 2, 3, 3, 4, 2, 3, 3, 4, 3, 4, 4, 5, 2, 3, 3, 4, 3, 4, 4, 5, 3, 4, 4, 5, 4, 5, 5, 6, 2, 3, 3, 4, 3, 4, 4, 5, 3, 4, 4, 5, 4, 5, 5, 6, 3, 4, 4, 5, 4, 5, 5, 6, 4, 5, 5, 6, 5, 6, 6, 7, 2, 3, 3, 4, 3, 4, 4, 5, 3, 4, 4, 5, 4, 5, 5, 6, 3, 4, 4, 5, 4, 5, 5, 6, 4, 5, 5, 6, 5, 6, 6, 7, 3, 4, 4, 5, 4, 5, 5, 6, 4, 5, 5, 6, 5, 6, 6, 7, 4, 5, 5, 6, 5, 6, 6, 7, 5, 6, 6, 7, 6, 7, 7, 8] })) (.tmp 17), none⟩, .p) <| .c (⟨some 19, .binOp .add 5 (.tmp 15) (.tmp 18) 5, none⟩, .p) <| .c (⟨some 20, .convert 5 3 (.tmp 19), none⟩, .p) <| .c (⟨some 2, .assign (.tmp 20), none⟩, .p) <| .n) Q a) : LI Try.prog h0 L (.raw (.region id rg100_0 true)) Q a :=
  LI_draw (.c (0, .p) <| .c (1, .p) <| .c (2, .p) <| .c (3, .p) <| .c (4, .p) <| .c (5, .p) <| .c (6, .p) <| .c (7, .p) <| .c (8, .p) <| .c (9, .p) <| .c (10, .p) <| .c (11, .p) <| .c (12, .p) <| .c (13, .p) <| .c (14, .p) <| .c (15, .p) <| .c (16, .p) <| .c (17, .p) <| .c (18, .p) <| .n) [] (by kernel_rfl) (by kernel_rfl) (by kernel_rfl) H
theorem dr100_0 (m : Nat) {Q : Exit → List AV → AH → Prop} {a : List AV} {h : AH} {id : Nat} (H : AX Try.prog m h [(⟨some 3, .move (.tmp 0), none⟩, true),
  (⟨some 4, .binOp .shr 75 (.tmp 3) (.const (.int .u64 24)) 67, none⟩, true),
  (⟨some 5, .index 9 (.const (.string { data := #[0, 1, 1, 2, 1, 2, 2, 3, 1, 2, 2, 3, 2, 3, 3, 4, 1, 2, 2, 3, 2, 3, 3, 4, 2, 3, 3, 4, 3, 4, 4, 5, 1, 2, 2, 3, 2, 3, 3, 4, 2, 3, 3, 4, 3, 4, 4, 5, 2, 3, 3, 4, 3, 4, 4, 5, 3, 4, 4, 5, 4, 5, 5, 6, 1, 2, 2, 3, 2, 3, 3, 4, 2, 3, 3, 4, 3, 4, 4, 5, 2, 3, 3, 4, 3, 4, 4, 5, 3, 4, 4, 5, 4, 5, 5, 6, 2, 3, 3, 4, 3, 4, 4, 5, 3, 4, 4, 5, 4, 5, 5, 6, 3, 4, 4, 5, 4, 5, 5, 6, 4, 5, 5, 6, 5, 6, 6, 7, 1, 2, 2, 3, 2, 3, 3, 4, 2, 3, 3, 4, 3, 4, 4, 5, 2, 3, 3, 4, 3, 4, 4, 5, 3, 4, 4, 5, 4, 5, 5, 6, 2, 3, 3, 4, 3, 4, 4, 5, 3, 4, 4, 5, 4, 5, 5, 6, 3, 4, 4, 5, 4, 5, 5, 6, 4, 5, 5, 6, 5, 6, 6, 7, 2, 3, 3, 4, 3, 4, 4, 5, 3, 4, 4, 5, 4, 5, 5, 6, 3, 4, 4, 5, 4, 5, 5, 6, 4, 5, 5, 6, 5, 6, 6, 7, 3, 4, 4, 5, 4, 5, 5, 6, 4, 5, 5, 6, 5, 6, 6, 7, 4, 5, 5, 6, 5, 6, 6, 7, 5, 6, 6, 7, 6, 7, 7, 8] })) (.tmp 4), none⟩, true),
  (⟨some 6, .move (.tmp 0), none⟩, true),
  (⟨some 7, .binOp .shr 75 (.tmp 6) (.const (.int .u64 16)) 67, none⟩, true),
  (⟨some 8, .binOp .and 75 (.tmp 7) (.const (.int .u32 255)) 75, none⟩, true),
  (⟨some 9, .index 9 (.const (.string { data := #[0, 1, 1, 2, 1, 2, 2, 3, 1, 2, 2, 3, 2, 3, 3, 4, 1, 2, 2, 3, 2, 3, 3, 4, 2, 3, 3, 4, 3, 4, 4, 5, 1, 2, 2, 3, 2, 3, 3, 4, 2, 3, 3, 4, 3, 4, 4, 5, 2, 3, 3, 4, 3, 4, 4, 5, 3, 4, 4, 5, 4, 5, 5, 6, 1, 2, 2, 3, 2, 3, 3, 4, 2, 3, 3, 4, 3, 4, 4, 5, 2, 3, 3, 4, 3, 4, 4, 5, 3, 4, 4, 5, 4, 5, 5, 6, 2, 3, 3, 4, 3, 4, 4, 5, 3, 4, 4, 5, 4, 5, 5, 6, 3, 4, 4, 5, 4, 5, 5, 6, 4, 5, 5, 6, 5, 6, 6, 7, 1, 2, 2, 3, 2, 3, 3, 4, 2, 3, 3, 4, 3, 4, 4, 5, 2, 3, 3, 4, 3, 4, 4, 5, 3, 4, 4, 5, 4, 5, 5, 6, 2, 3, 3, 4, 3, 4, 4, 5, 3, 4, 4, 5, 4, 5, 5, 6, 3, 4, 4, 5, 4, 5, 5, 6, 4, 5, 5, 6, 5, 6, 6, 7, 2, 3, 3, 4, 3, 4, 4, 5, 3, 4, 4, 5, 4, 5, 5, 6, 3, 4, 4, 5, 4, 5, 5, 6, 4, 5, 5, 6, 5, 6, 6, 7, 3, 4, 4, 5, 4, 5, 5, 6, 4, 5, 5, 6, 5, 6, 6, 7, 4, 5, 5, 6, 5, 6, 6, 7, 5, 6, 6, 7, 6, 7, 7, 8] })) (.tmp 8), none⟩, true),
  (⟨some 10, .binOp .add 5 (.tmp 5) (.tmp 9) 5, none⟩, true),
  (⟨some 11, .move (.tmp 0), none⟩, true),
  (⟨some 12, .binOp .shr 75 (.tmp 11) (.const (.int .u64 8)) 67, none⟩, true),
  (⟨some 13, .binOp .and 75 (.tmp 12) (.const (.int .u32 255)) 75, none⟩, true),
  (⟨some 14, .index 9 (.const (.string { data := #[0, 1, 1, 2, 1, 2, 2, 3, 1, 2, 2, 3, 2, 3, 3, 4, 1, 2, 2, 3, 2, 3, 3, 4, 2, 3, 3, 4, 3, 4, 4, 5, 1, 2, 2, 3, 2, 3, 3, 4, 2, 3, 3, 4, 3, 4, 4, 5, 2, 3, 3, 4, 3, 4, 4, 5, 3, 4, 4, 5, 4, 5, 5, 6, 1, 2, 2, 3, 2, 3, 3, 4, 2, 3, 3, 4, 3, 4, 4, 5, 2, 3, 3, 4, 3, 4, 4, 5, 3, 4, 4, 5, 4, 5, 5, 6, 2, 3, 3, 4, 3, 4, 4, 5, 3, 4, 4, 5, 4, 5, 5, 6, 3, 4, 4, 5, 4, 5, 5, 6, 4, 5, 5, 6, 5, 6, 6, 7, 1, 2, 2, 3, 2, 3, 3, 4, 2, 3, 3, 4, 3, 4, 4, 5, 2, 3, 3, 4, 3, 4, 4, 5, 3, 4, 4, 5, 4, 5, 5, 6, 2, 3, 3, 4, 3, 4, 4, 5, 3, 4, 4, 5, 4, 5, 5, 6, 3, 4, 4, 5, 4, 5, 5, 6, 4, 5, 5, 6, 5, 6, 6, 7, 2, 3, 3, 4, 3, 4, 4, 5, 3, 4, 4, 5, 4, 5, 5, 6, 3, 4, 4, 5, 4, 5, 5, 6, 4, 5, 5, 6, 5, 6, 6, 7, 3, 4, 4, 5, 4, 5, 5, 6, 4, 5, 5, 6, 5, 6, 6, 7, 4, 5, 5, 6, 5, 6, 6, 7, 5, 6, 6, 7, 6, 7, 7, 8] })) (.tmp 13), none⟩, true),
  (⟨some 15, .binOp .add 5 (.tmp 10) (.tmp 14) 5, none⟩, true),
  (⟨some 16, .move (.tmp 0), none⟩, true),
  (⟨some 17, .binOp .and 75 (.tmp 16) (.const (.int .u32 255)) 75, none⟩, true),
  (⟨some 18, .index 9 (.const (.string { data := #[0, 1, 1, 2, 1, 2, 2, 3, 1, 2, 2, 3, 2, 3, 3, 4, 1, 2, 2, 3, 2, 3, 3, 4, 2, 3, 3, 4, 3, 4, 4, 5, 1, 2, 2, 3, 2, 3, 3, 4, 2, 3, 3, 4, 3, 4, 4, 5, 2, 3, 3, 4, 3, 4, 4, 5, 3, 4, 4, 5, 4, 5, 5, 6, 1, 2, 2, 3, 2, 3, 3, 4, 2, 3, 3, 4, 3, 4, 4, 5, 2, 3, 3, 4, 3, 4, 4, 5, 3, 4, 4, 5, 4, 5, 5, 6, 2, 3, 3, 4, 3, 4, 4, 5, 3, 4, 4, 5, 4, 5, 5, 6, 3, 4, 4, 5, 4, 5, 5, 6, 4, 5, 5, 6, 5, 6, 6, 7, 1, 2, 2, 3, 2, 3, 3, 4, 2, 3, 3, 4, 3, 4, 4, 5, 2, 3, 3, 4, 3, 4, 4, 5, 3, 4, 4, 5, 4, 5, 5, 6, 2, 3, 3, 4, 3, 4, 4, 5, 3, 4, 4, 5, 4, 5, 5, 6, 3, 4, 4, 5, 4, 5, 5, 6, 4, 5, 5, 6, 5, 6, 6, 7, 2, 3, 3, 4, 3, 4, 4, 5, 3, 4, 4, 5, 4, 5, 5, 6, 3, 4, 4, 5, 4, 5, 5, 6, 4, 5, 5, 6, 5, 6, 6, 7, 3, 4, 4, 5, 4, 5, 5, 6, 4, 5, 5, 6, 5, 6, 6, 7, 4, 5, 5, 6, 5, 6, 6, 7, 5, 6, 6, 7, 6, 7, 7, 8] })) (.tmp 17), none⟩, true),
  (⟨some 19, .binOp .add 5 (.tmp 15) (.tmp 18) 5, none⟩, true),
  (⟨some 20, .convert 5 3 (.tmp 19), none⟩, true),
  (⟨some 2, .assign (.tmp 20), none⟩, true)] (fun a' h' => Q .normal a' h') a h) : AI Try.prog (.raw (.region id rg100_0 true)) Q a h :=
  AI_draw [(0, true), (1, true), (2, true), (3, true), (4, true), (5, true), (6, true), (7, true), (8, true), (9, true), (10, true), (11, true), (12, true), (13, true), (14, true), (15, true), (16, true), (17, true), (18, true)] m (by kernel_rfl) (by kernel_rfl) (by kernel_rfl) H

/-- math/bits.OnesCount64 -/
def c101 : IC :=
  (.seq
  (.reg [
    ⟨some 2, .assign (.const (.int .i64 0)), none⟩])
  (.seq
  (.reg [
    ⟨some 3, .move (.tmp 0), none⟩,
    ⟨some 4, .binOp .shr 59 (.tmp 3) (.const (.int .u64 1)) 67, none⟩,
    ⟨some 5, .binOp .and 59 (.tmp 4) (.const (.int .u64 6148914691236517205)) 59, none⟩,
    ⟨some 6, .move (.tmp 0), none⟩,
    ⟨some 7, .binOp .and 59 (.tmp 6) (.const (.int .u64 6148914691236517205)) 59, none⟩,
    ⟨some 8, .binOp .add 59 (.tmp 5) (.tmp 7) 59, none⟩,
    ⟨some 0, .assign (.tmp 8), none⟩])
  (.seq
  (.reg [
    ⟨some 9, .move (.tmp 0), none⟩,
    ⟨some 10, .binOp .shr 59 (.tmp 9) (.const (.int .u64 2)) 67, none⟩,
    ⟨some 11, .binOp .and 59 (.tmp 10) (.const (.int .u64 3689348814741910323)) 59, none⟩,
    ⟨some 12, .move (.tmp 0), none⟩,
    ⟨some 13, .binOp .and 59 (.tmp 12) (.const (.int .u64 3689348814741910323)) 59, none⟩,
    ⟨some 14, .binOp .add 59 (.tmp 11) (.tmp 13) 59, none⟩,
    ⟨some 0, .assign (.tmp 14), none⟩])
  (.seq
  (.reg [
    ⟨some 15, .move (.tmp 0), none⟩,
    ⟨some 16, .binOp .shr 59 (.tmp 15) (.const (.int .u64 4)) 67, none⟩,
    ⟨some 17, .move (.tmp 0), none⟩,
    ⟨some 18, .binOp .add 59 (.tmp 16) (.tmp 17) 59, none⟩,
    ⟨some 19, .binOp .and 59 (.tmp 18) (.const (.int .u64 1085102592571150095)) 59, none⟩,
    ⟨some 0, .assign (.tmp 19), none⟩])
  (.seq
  (.reg [
    ⟨some 20, .move (.tmp 0), none⟩,
    ⟨some 21, .move (.tmp 0), none⟩,
    ⟨some 22, .binOp .shr 59 (.tmp 21) (.const (.int .u64 8)) 67, none⟩,
    ⟨some 23, .binOp .add 59 (.tmp 20) (.tmp 22) 59, none⟩,
    ⟨some 0, .assign (.tmp 23), none⟩])
  (.seq
  (.reg [
    ⟨some 24, .move (.tmp 0), none⟩,
    ⟨some 25, .move (.tmp 0), none⟩,
    ⟨some 26, .binOp .shr 59 (.tmp 25) (.const (.int .u64 16)) 67, none⟩,
    ⟨some 27, .binOp .add 59 (.tmp 24) (.tmp 26) 59, none⟩,
    ⟨some 0, .assign (.tmp 27), none⟩])
  (.seq
  (.reg [
    ⟨some 28, .move (.tmp 0), none⟩,
    ⟨some 29, .move (.tmp 0), none⟩,
    ⟨some 30, .binOp .shr 59 (.tmp 29) (.const (.int .u64 32)) 67, none⟩,
    ⟨some 31, .binOp .add 59 (.tmp 28) (.tmp 30) 59, none⟩,
    ⟨some 0, .assign (.tmp 31), none⟩])
  (.seq
  (.reg [
    ⟨some 32, .move (.tmp 0), none⟩,
    ⟨some 33, .convert 59 3 (.tmp 32), none⟩,
    ⟨some 34, .binOp .and 3 (.tmp 33) (.const (.int .i64 127)) 3, none⟩,
    ⟨some 2, .assign (.tmp 34), none⟩])
  .ret))))))))
theorem hd101 : Try.f101.body.map dec = some c101 := by kernel_rfl
theorem e101 {R : AV → AH → Prop} {h : AH} (x0 : AV) (H : h.wf → AI Try.prog c101 (RetQ Try.prog [.tmp 2] R) [x0, un, un, un, un, un, un, un, un, un, un, un, un, un, un, un, un, un, un, un, un, un, un, un, un, un, un, un, un, un, un, un, un, un, un] h) : AC Try.prog 101 [x0] h R :=
  AC_of' (rs := [.tmp 2]) Try.func101 (by kernel_rfl) hd101 Try.ntmps101 rfl H

/-- math/bits.OnesCount -/
def c84 : IC :=
  (.seq
  (.reg [
    ⟨some 2, .assign (.const (.int .i64 0)), none⟩])
  (.seq
  (.cond (.const (.bool false))
    (.seq
    (.reg [
      ⟨some 3, .move (.tmp 0), none⟩,
      ⟨some 4, .convert 67 75 (.tmp 3), none⟩,
      ⟨some 5, .call { callee := .value (.func 100), args := #[.tmp 4], argTypes := #[75] }, none⟩,
      ⟨some 2, .assign (.tmp 5), none⟩])
    .ret)
    .skip)
  (.seq
  (.reg [
    ⟨some 6, .move (.tmp 0), none⟩,
    ⟨some 7, .call { callee := .value (.func 101), args := #[.tmp 6], argTypes := #[59] }, none⟩,
    ⟨some 2, .assign (.tmp 7), none⟩])
  .ret)))
theorem hd84 : Try.f84.body.map dec = some c84 := by kernel_rfl
theorem e84 {R : AV → AH → Prop} {h : AH} (x0 : AV) (H : h.wf → AI Try.prog c84 (RetQ Try.prog [.tmp 2] R) [x0, un, un, un, un, un, un, un] h) : AC Try.prog 84 [x0] h R :=
  AC_of' (rs := [.tmp 2]) Try.func84 (by kernel_rfl) hd84 Try.ntmps84 rfl H

/-- impl.LowerBound -/
def c49 : IC :=
  (.seq
  (.reg [
    ⟨some 2, .assign (.const (.int .i64 0)), none⟩,
    ⟨some 3, .assign (.const (.bool false)), none⟩])
  (.seq
  (.seq
  (.reg [
    ⟨some 4, .move (.tmp 0), none⟩,
    ⟨some 5, .call { callee := .value (.func 59), args := #[.tmp 4], argTypes := #[3] }, none⟩,
    ⟨some 6, .unOp .not 4 (.tmp 5), none⟩])
  (.cond (.tmp 6)
    (.seq
    (.reg [
      ⟨some 2, .assign (.const (.int .i64 0)), none⟩,
      ⟨some 3, .assign (.const (.bool false)), none⟩])
    .ret)
    .skip))
  (.seq
  (.reg [
    ⟨some 7, .move (.tmp 0), none⟩,
    ⟨some 8, .convert 3 67 (.tmp 7), none⟩,
    ⟨some 9, .call { callee := .value (.func 83), args := #[.tmp 8], argTypes := #[67] }, none⟩,
    ⟨some 10, .binOp .sub 3 (.tmp 9) (.const (.int .i64 1)) 3, none⟩,
    ⟨some 11, .move (.tmp 0), none⟩,
    ⟨some 12, .convert 3 67 (.tmp 11), none⟩,
    ⟨some 13, .call { callee := .value (.func 84), args := #[.tmp 12], argTypes := #[67] }, none⟩,
    ⟨some 14, .binOp .sub 3 (.tmp 13) (.const (.int .i64 1)) 3, none⟩,
    ⟨some 15, .convert 3 67 (.tmp 14), none⟩,
    ⟨some 16, .call { callee := .value (.func 83), args := #[.tmp 15], argTypes := #[67] }, none⟩,
    ⟨some 17, .binOp .add 3 (.tmp 10) (.tmp 16) 3, none⟩,
    ⟨some 2, .assign (.tmp 17), none⟩,
    ⟨some 3, .assign (.const (.bool true)), none⟩])
  .ret)))
theorem hd49 : Try.f49.body.map dec = some c49 := by kernel_rfl
theorem e49 {R : AV → AH → Prop} {h : AH} (x0 : AV) (H : h.wf → AI Try.prog c49 (RetQ Try.prog [.tmp 2, .tmp 3] R) [x0, un, un, un, un, un, un, un, un, un, un, un, un, un, un, un, un, un] h) : AC Try.prog 49 [x0] h R :=
  AC_of' (rs := [.tmp 2, .tmp 3]) Try.func49 (by kernel_rfl) hd49 Try.ntmps49 rfl H

/-- impl.UpperBound -/
def c50 : IC :=
  (.seq
  (.reg [
    ⟨some 2, .assign (.const (.int .i64 0)), none⟩,
    ⟨some 3, .assign (.const (.bool false)), none⟩])
  (.seq
  (.seq
  (.reg [
    ⟨some 4, .move (.tmp 0), none⟩,
    ⟨some 5, .call { callee := .value (.func 59), args := #[.tmp 4], argTypes := #[3] }, none⟩,
    ⟨some 6, .unOp .not 4 (.tmp 5), none⟩])
  (.cond (.tmp 6)
    (.seq
    (.reg [
      ⟨some 2, .assign (.const (.int .i64 0)), none⟩,
      ⟨some 3, .assign (.const (.bool false)), none⟩])
    .ret)
    .skip))
  (.seq
  (.reg [
    ⟨some 7, .move (.tmp 0), none⟩,
    ⟨some 8, .convert 3 67 (.tmp 7), none⟩,
    ⟨some 9, .call { callee := .value (.func 83), args := #[.tmp 8], argTypes := #[67] }, none⟩,
    ⟨some 10, .move (.tmp 0), none⟩,
    ⟨some 11, .convert 3 67 (.tmp 10), none⟩,
    ⟨some 12, .call { callee := .value (.func 84), args := #[.tmp 11], argTypes := #[67] }, none⟩,
    ⟨some 13, .binOp .add 3 (.tmp 9) (.tmp 12) 3, none⟩,
    ⟨some 14, .binOp .sub 3 (.tmp 13) (.const (.int .i64 2)) 3, none⟩,
    ⟨some 2, .assign (.tmp 14), none⟩,
    ⟨some 3, .assign (.const (.bool true)), none⟩])
  .ret)))
theorem hd50 : Try.f50.body.map dec = some c50 := by kernel_rfl
theorem e50 {R : AV → AH → Prop} {h : AH} (x0 : AV) (H : h.wf → AI Try.prog c50 (RetQ Try.prog [.tmp 2, .tmp 3] R) [x0, un, un, un, un, un, un, un, un, un, un, un, un, un, un] h) : AC Try.prog 50 [x0] h R :=
  AC_of' (rs := [.tmp 2, .tmp 3]) Try.func50 (by kernel_rfl) hd50 Try.ntmps50 rfl H

/-- impl.BinaryStar -/
def c51 : IC :=
  (.seq
  (.reg [
    ⟨some 2, .assign (.const (.slice none 0 0)), none⟩,
    ⟨some 3, .assign (.const (.bool false)), none⟩])
  (.seq
  (.seq
  (.reg [
    ⟨some 7, .move (.tmp 0), none⟩,
    ⟨some 8, .call { callee := .value (.func 59), args := #[.tmp 7], argTypes := #[3] }, none⟩,
    ⟨some 9, .unOp .not 4 (.tmp 8), none⟩])
  (.cond (.tmp 9)
    (.seq
    (.reg [
      ⟨some 2, .assign (.const (.slice none 0 0)), none⟩,
      ⟨some 3, .assign (.const (.bool false)), none⟩])
    .ret)
    .skip))
  (.seq
  (.reg [
    ⟨some 10, .buildSlice 22 1 #[(0, .const (.int .i64 1))], none⟩,
    ⟨some 4, .assign (.tmp 10), none⟩])
  (.seq
  (.seq
  (.reg [
    ⟨some 11, .move (.tmp 0), none⟩,
    ⟨some 12, .convert 3 67 (.tmp 11), none⟩,
    ⟨some 13, .call { callee := .value (.func 83), args := #[.tmp 12], argTypes := #[67] }, none⟩,
    ⟨some 14, .binOp .sub 3 (.tmp 13) (.const (.int .i64 2)) 3, none⟩,
    ⟨some 5, .assign (.tmp 14), none⟩])
  (.block 0
  (.loop
    (.seq
    (.seq
    (.reg [
      ⟨some 15, .move (.tmp 5), none⟩,
      ⟨some 16, .binOp .geq 3 (.tmp 15) (.const (.int .i64 0)) 3, none⟩])
    (.cond (.tmp 16)
      .skip
      (.exit 0)))
    (.seq
    (.block 1
    (.seq
    (.reg [
      ⟨some 19, .move (.tmp 4), none⟩,
      ⟨some 20, .move (.tmp 4), none⟩,
      ⟨some 21, .call { callee := .builtin .len, args := #[.tmp 20], argTypes := #[22] }, none⟩,
      ⟨some 22, .binOp .sub 3 (.tmp 21) (.const (.int .i64 1)) 3, none⟩,
      ⟨some 23, .indexAddr 22 (.tmp 19) (.tmp 22), none⟩,
      ⟨some 24, .load 3 (.tmp 23), none⟩,
      ⟨some 25, .binOp .mul 3 (.const (.int .i64 2)) (.tmp 24) 3, none⟩,
      ⟨some 6, .assign (.tmp 25), none⟩])
    (.seq
    (.reg [
      ⟨some 26, .move (.tmp 4), none⟩,
      ⟨some 27, .move (.tmp 6), none⟩,
      ⟨some 28, .buildSlice 22 1 #[(0, .tmp 27)], none⟩,
      ⟨some 29, .call { callee := .builtin .append, args := #[.tmp 26, .tmp 28], argTypes := #[22, 22] }, none⟩,
      ⟨some 4, .assign (.tmp 29), none⟩])
    (.seq
    (.reg [
      ⟨some 30, .move (.tmp 0), none⟩,
      ⟨some 31, .move (.tmp 5), none⟩,
      ⟨some 32, .binOp .shr 3 (.tmp 30) (.tmp 31) 3, none⟩,
      ⟨some 33, .binOp .and 3 (.tmp 32) (.const (.int .i64 1)) 3, none⟩,
      ⟨some 34, .binOp .eql 3 (.tmp 33) (.const (.int .i64 1)) 3, none⟩])
    (.cond (.tmp 34)
      (.reg [
        ⟨some 35, .move (.tmp 4), none⟩,
        ⟨some 36, .move (.tmp 6), none⟩,
        ⟨some 37, .binOp .add 3 (.tmp 36) (.const (.int .i64 1)) 3, none⟩,
        ⟨some 38, .buildSlice 22 1 #[(0, .tmp 37)], none⟩,
        ⟨some 39, .call { callee := .builtin .append, args := #[.tmp 35, .tmp 38], argTypes := #[22, 22] }, none⟩,
        ⟨some 4, .assign (.tmp 39), none⟩])
      .skip)))))
    (.reg [
      ⟨some 17, .move (.tmp 5), none⟩,
      ⟨some 18, .binOp .sub 3 (.tmp 17) (.const (.int .i64 1)) 3, none⟩,
      ⟨some 5, .assign (.tmp 18), none⟩]))))))
  (.seq
  (.reg [
    ⟨some 40, .move (.tmp 4), none⟩,
    ⟨some 2, .assign (.tmp 40), none⟩,
    ⟨some 3, .assign (.const (.bool true)), none⟩])
  .ret)))))
theorem hd51 : Try.f51.body.map dec = some c51 := by kernel_rfl
theorem e51 {R : AV → AH → Prop} {h : AH} (x0 : AV) (H : h.wf → AI Try.prog c51 (RetQ Try.prog [.tmp 2, .tmp 3] R) [x0, un, un, un, un, un, un, un, un, un, un, un, un, un, un, un, un, un, un, un, un, un, un, un, un, un, un, un, un, un, un, un, un, un, un, un, un, un, un, un, un] h) : AC Try.prog 51 [x0] h R :=
  AC_of' (rs := [.tmp 2, .tmp 3]) Try.func51 (by kernel_rfl) hd51 Try.ntmps51 rfl H

/-- laws.FnShortestStars -/
def c12 : IC :=
  (.seq
  (.reg [
    ⟨some 4, .assign (.const (.bool false)), none⟩])
  (.seq
  (.seq
  (.reg [
    ⟨some 23, .move (.tmp 0), none⟩,
    ⟨some 24, .move (.tmp 1), none⟩,
    ⟨some 25, .call { callee := .value (.func 31), args := #[.tmp 23, .tmp 24], argTypes := #[35, 35] }, none⟩])
  (.cond (.tmp 25)
    (.seq
    (.reg [
      ⟨some 4, .assign (.const (.bool true)), none⟩])
    .ret)
    .skip))
  (.seq
  (.reg [
    ⟨some 26, .move (.tmp 0), none⟩,
    ⟨some 27, .call { callee := .value (.func 48), args := #[.tmp 26], argTypes := #[35] }, none⟩,
    ⟨some 5, .assign (.tmp 27), none⟩])
  (.seq
  (.reg [
    ⟨some 29, .move (.tmp 5), none⟩,
    ⟨some 30, .call { callee := .value (.func 23), args := #[.tmp 29], argTypes := #[3] }, none⟩,
    ⟨some 28, .move (.tmp 30), none⟩,
    ⟨some 31, .extract (.tmp 28) 0, none⟩,
    ⟨some 32, .extract (.tmp 28) 1, none⟩,
    ⟨some 6, .assign (.tmp 31), none⟩,
    ⟨some 7, .assign (.tmp 32), none⟩])
  (.seq
  (.reg [
    ⟨some 34, .move (.tmp 5), none⟩,
    ⟨some 35, .call { callee := .value (.func 22), args := #[.tmp 34], argTypes := #[3] }, none⟩,
    ⟨some 33, .move (.tmp 35), none⟩,
    ⟨some 36, .extract (.tmp 33) 0, none⟩,
    ⟨some 37, .extract (.tmp 33) 1, none⟩,
    ⟨some 8, .assign (.tmp 36), none⟩,
    ⟨some 9, .assign (.tmp 37), none⟩])
  (.seq
  (.seq
  (.reg [
    ⟨some 38, .move (.tmp 7), none⟩,
    ⟨some 39, .move (.tmp 9), none⟩,
    ⟨some 40, .binOp .neq 4 (.tmp 38) (.tmp 39) 4, none⟩,
    ⟨some 41, .move (.tmp 40), none⟩,
    ⟨some 42, .move (.tmp 6), some (41, false)⟩,
    ⟨some 43, .move (.tmp 8), some (41, false)⟩,
    ⟨some 44, .call { callee := .value (.func 38), args := #[.tmp 42, .tmp 43], argTypes := #[22, 22] }, some (41, false)⟩,
    ⟨some 45, .unOp .not 4 (.tmp 44), some (41, false)⟩,
    ⟨some 46, .pick (.tmp 41) (.const (.bool true)) (.tmp 45), none⟩])
  (.cond (.tmp 46)
    (.seq
    (.reg [
      ⟨some 4, .assign (.const (.bool false)), none⟩])
    .ret)
    .skip))
  (.seq
  (.reg [
    ⟨some 48, .move (.tmp 5), none⟩,
    ⟨some 49, .call { callee := .value (.func 36), args := #[.tmp 48], argTypes := #[3] }, none⟩,
    ⟨some 47, .move (.tmp 49), none⟩,
    ⟨some 50, .extract (.tmp 47) 0, none⟩,
    ⟨some 51, .extract (.tmp 47) 1, none⟩,
    ⟨some 10, .assign (.tmp 50), none⟩,
    ⟨some 11, .assign (.tmp 51), none⟩])
  (.seq
  (.reg [
    ⟨some 53, .move (.tmp 5), none⟩,
    ⟨some 54, .call { callee := .value (.func 49), args := #[.tmp 53], argTypes := #[3] }, none⟩,
    ⟨some 52, .move (.tmp 54), none⟩,
    ⟨some 55, .extract (.tmp 52) 0, none⟩,
    ⟨some 56, .extract (.tmp 52) 1, none⟩,
    ⟨some 12, .assign (.tmp 55), none⟩,
    ⟨some 13, .assign (.tmp 56), none⟩])
  (.seq
  (.reg [
    ⟨some 58, .move (.tmp 5), none⟩,
    ⟨some 59, .call { callee := .value (.func 50), args := #[.tmp 58], argTypes := #[3] }, none⟩,
    ⟨some 57, .move (.tmp 59), none⟩,
    ⟨some 60, .extract (.tmp 57) 0, none⟩,
    ⟨some 61, .extract (.tmp 57) 1, none⟩,
    ⟨some 14, .assign (.tmp 60), none⟩,
    ⟨some 15, .assign (.tmp 61), none⟩])
  (.seq
  (.seq
  (.reg [
    ⟨some 62, .move (.tmp 11), none⟩,
    ⟨some 63, .move (.tmp 7), none⟩,
    ⟨some 64, .binOp .neq 4 (.tmp 62) (.tmp 63) 4, none⟩,
    ⟨some 65, .move (.tmp 64), none⟩,
    ⟨some 66, .move (.tmp 13), some (65, false)⟩,
    ⟨some 67, .move (.tmp 7), some (65, false)⟩,
    ⟨some 68, .binOp .neq 4 (.tmp 66) (.tmp 67) 4, some (65, false)⟩,
    ⟨some 69, .pick (.tmp 65) (.const (.bool true)) (.tmp 68), none⟩,
    ⟨some 70, .move (.tmp 69), none⟩,
    ⟨some 71, .move (.tmp 15), some (70, false)⟩,
    ⟨some 72, .move (.tmp 7), some (70, false)⟩,
    ⟨some 73, .binOp .neq 4 (.tmp 71) (.tmp 72) 4, some (70, false)⟩,
    ⟨some 74, .pick (.tmp 70) (.const (.bool true)) (.tmp 73), none⟩])
  (.cond (.tmp 74)
    (.seq
    (.reg [
      ⟨some 4, .assign (.const (.bool false)), none⟩])
    .ret)
    .skip))
  (.seq
  (.seq
  (.reg [
    ⟨some 75, .move (.tmp 7), none⟩,
    ⟨some 76, .unOp .not 4 (.tmp 75), none⟩])
  (.cond (.tmp 76)
    (.seq
    (.reg [
      ⟨some 4, .assign (.const (.bool true)), none⟩])
    .ret)
    .skip))
  (.seq
  (.seq
  (.reg [
    ⟨some 77, .move (.tmp 6), none⟩,
    ⟨some 78, .call { callee := .value (.func 33), args := #[.tmp 77], argTypes := #[22] }, none⟩,
    ⟨some 79, .unOp .not 4 (.tmp 78), none⟩,
    ⟨some 80, .move (.tmp 79), none⟩,
    ⟨some 81, .move (.tmp 6), some (80, false)⟩,
    ⟨some 82, .move (.tmp 6), some (80, false)⟩,
    ⟨some 83, .call { callee := .builtin .len, args := #[.tmp 82], argTypes := #[22] }, some (80, false)⟩,
    ⟨some 84, .binOp .sub 3 (.tmp 83) (.const (.int .i64 1)) 3, some (80, false)⟩,
    ⟨some 85, .indexAddr 22 (.tmp 81) (.tmp 84), some (80, false)⟩,
    ⟨some 86, .load 3 (.tmp 85), some (80, false)⟩,
    ⟨some 87, .move (.tmp 5), some (80, false)⟩,
    ⟨some 88, .binOp .neq 3 (.tmp 86) (.tmp 87) 3, some (80, false)⟩,
    ⟨some 89, .pick (.tmp 80) (.const (.bool true)) (.tmp 88), none⟩,
    ⟨some 90, .move (.tmp 89), none⟩,
    ⟨some 91, .move (.tmp 6), some (90, false)⟩,
    ⟨some 92, .call { callee := .builtin .len, args := #[.tmp 91], argTypes := #[22] }, some (90, false)⟩,
    ⟨some 93, .move (.tmp 10), some (90, false)⟩,
    ⟨some 94, .binOp .add 3 (.tmp 93) (.const (.int .i64 1)) 3, some (90, false)⟩,
    ⟨some 95, .binOp .neq 3 (.tmp 92) (.tmp 94) 3, some (90, false)⟩,
    ⟨some 96, .pick (.tmp 90) (.const (.bool true)) (.tmp 95), none⟩,
    ⟨some 97, .move (.tmp 96), none⟩,
    ⟨some 98, .move (.tmp 12), some (97, false)⟩,
    ⟨some 99, .move (.tmp 10), some (97, false)⟩,
    ⟨some 100, .binOp .gtr 3 (.tmp 98) (.tmp 99) 3, some (97, false)⟩,
    ⟨some 101, .pick (.tmp 97) (.const (.bool true)) (.tmp 100), none⟩,
    ⟨some 102, .move (.tmp 101), none⟩,
    ⟨some 103, .move (.tmp 10), some (102, false)⟩,
    ⟨some 104, .move (.tmp 14), some (102, false)⟩,
    ⟨some 105, .binOp .gtr 3 (.tmp 103) (.tmp 104) 3, some (102, false)⟩,
    ⟨some 106, .pick (.tmp 102) (.const (.bool true)) (.tmp 105), none⟩])
  (.cond (.tmp 106)
    (.seq
    (.reg [
      ⟨some 4, .assign (.const (.bool false)), none⟩])
    .ret)
    .skip))
  (.seq
  (.seq
  (.reg [
    ⟨some 16, .assign (.const (.int .i64 0)), none⟩])
  (.block 0
  (.loop
    (.seq
    (.seq
    (.reg [
      ⟨some 107, .move (.tmp 16), none⟩,
      ⟨some 108, .move (.tmp 10), none⟩,
      ⟨some 109, .binOp .lss 3 (.tmp 107) (.tmp 108) 3, none⟩,
      ⟨some 110, .move (.tmp 109), none⟩,
      ⟨some 111, .move (.tmp 16), some (110, true)⟩,
      ⟨some 112, .binOp .leq 3 (.tmp 111) (.const (.int .i64 8)) 3, some (110, true)⟩,
      ⟨some 113, .pick (.tmp 110) (.tmp 112) (.const (.bool false)), none⟩])
    (.cond (.tmp 113)
      .skip
      (.exit 0)))
    (.seq
    (.block 1
    (.seq
    (.reg [
      ⟨some 117, .move (.tmp 5), none⟩,
      ⟨some 118, .move (.tmp 16), none⟩,
      ⟨some 119, .call { callee := .value (.func 44), args := #[.tmp 117, .tmp 118], argTypes := #[3, 3] }, none⟩,
      ⟨some 116, .move (.tmp 119), none⟩,
      ⟨some 120, .extract (.tmp 116) 0, none⟩,
      ⟨some 121, .extract (.tmp 116) 1, none⟩,
      ⟨some 17, .assign (.tmp 120), none⟩,
      ⟨some 18, .assign (.tmp 121), none⟩])
    (.seq
    (.reg [
      ⟨some 122, .move (.tmp 18), none⟩,
      ⟨some 123, .unOp .not 4 (.tmp 122), none⟩,
      ⟨some 124, .move (.tmp 123), none⟩,
      ⟨some 125, .move (.tmp 17), some (124, false)⟩,
      ⟨some 126, .binOp .neq 3 (.tmp 125) (.const (.int .i64 0)) 3, some (124, false)⟩,
      ⟨some 127, .pick (.tmp 124) (.const (.bool true)) (.tmp 126), none⟩])
    (.cond (.tmp 127)
      (.seq
      (.reg [
        ⟨some 4, .assign (.const (.bool false)), none⟩])
      .ret)
      .skip))))
    (.reg [
      ⟨some 114, .move (.tmp 16), none⟩,
      ⟨some 115, .binOp .add 3 (.tmp 114) (.const (.int .i64 1)) 3, none⟩,
      ⟨some 16, .assign (.tmp 115), none⟩]))))))
  (.seq
  (.reg [
    ⟨some 129, .move (.tmp 5), none⟩,
    ⟨some 130, .call { callee := .value (.func 51), args := #[.tmp 129], argTypes := #[3] }, none⟩,
    ⟨some 128, .move (.tmp 130), none⟩,
    ⟨some 131, .extract (.tmp 128) 0, none⟩,
    ⟨some 132, .extract (.tmp 128) 1, none⟩,
    ⟨some 19, .assign (.tmp 131), none⟩,
    ⟨some 20, .assign (.tmp 132), none⟩])
  (.seq
  (.reg [
    ⟨some 134, .move (.tmp 5), none⟩,
    ⟨some 135, .call { callee := .value (.func 25), args := #[.tmp 134], argTypes := #[3] }, none⟩,
    ⟨some 133, .move (.tmp 135), none⟩,
    ⟨some 136, .extract (.tmp 133) 0, none⟩,
    ⟨some 137, .extract (.tmp 133) 1, none⟩,
    ⟨some 21, .assign (.tmp 136), none⟩,
    ⟨some 22, .assign (.tmp 137), none⟩])
  (.seq
  (.reg [
    ⟨some 138, .move (.tmp 20), none⟩,
    ⟨some 139, .move (.tmp 138), none⟩,
    ⟨some 140, .move (.tmp 22), some (139, true)⟩,
    ⟨some 141, .pick (.tmp 139) (.tmp 140) (.const (.bool false)), none⟩,
    ⟨some 142, .move (.tmp 141), none⟩,
    ⟨some 143, .move (.tmp 19), some (142, true)⟩,
    ⟨some 144, .call { callee := .value (.func 33), args := #[.tmp 143], argTypes := #[22] }, some (142, true)⟩,
    ⟨some 145, .pick (.tmp 142) (.tmp 144) (.const (.bool false)), none⟩,
    ⟨some 146, .move (.tmp 145), none⟩,
    ⟨some 147, .move (.tmp 19), some (146, true)⟩,
    ⟨some 148, .call { callee := .builtin .len, args := #[.tmp 147], argTypes := #[22] }, some (146, true)⟩,
    ⟨some 149, .move (.tmp 14), some (146, true)⟩,
    ⟨some 150, .binOp .add 3 (.tmp 149) (.const (.int .i64 1)) 3, some (146, true)⟩,
    ⟨some 151, .binOp .eql 3 (.tmp 148) (.tmp 150) 3, some (146, true)⟩,
    ⟨some 152, .pick (.tmp 146) (.tmp 151) (.const (.bool false)), none⟩,
    ⟨some 153, .move (.tmp 152), none⟩,
    ⟨some 154, .move (.tmp 19), some (153, true)⟩,
    ⟨some 155, .move (.tmp 14), some (153, true)⟩,
    ⟨some 156, .indexAddr 22 (.tmp 154) (.tmp 155), some (153, true)⟩,
    ⟨some 157, .load 3 (.tmp 156), some (153, true)⟩,
    ⟨some 158, .move (.tmp 5), some (153, true)⟩,
    ⟨some 159, .binOp .eql 3 (.tmp 157) (.tmp 158) 3, some (153, true)⟩,
    ⟨some 160, .pick (.tmp 153) (.tmp 159) (.const (.bool false)), none⟩,
    ⟨some 161, .move (.tmp 160), none⟩,
    ⟨some 162, .move (.tmp 21), some (161, true)⟩,
    ⟨some 163, .call { callee := .value (.func 33), args := #[.tmp 162], argTypes := #[22] }, some (161, true)⟩,
    ⟨some 164, .pick (.tmp 161) (.tmp 163) (.const (.bool false)), none⟩,
    ⟨some 165, .move (.tmp 164), none⟩,
    ⟨some 166, .move (.tmp 21), some (165, true)⟩,
    ⟨some 167, .move (.tmp 21), some (165, true)⟩,
    ⟨some 168, .call { callee := .builtin .len, args := #[.tmp 167], argTypes := #[22] }, some (165, true)⟩,
    ⟨some 169, .binOp .sub 3 (.tmp 168) (.const (.int .i64 1)) 3, some (165, true)⟩,
    ⟨some 170, .indexAddr 22 (.tmp 166) (.tmp 169), some (165, true)⟩,
    ⟨some 171, .load 3 (.tmp 170), some (165, true)⟩,
    ⟨some 172, .move (.tmp 5), some (165, true)⟩,
    ⟨some 173, .binOp .eql 3 (.tmp 171) (.tmp 172) 3, some (165, true)⟩,
    ⟨some 174, .pick (.tmp 165) (.tmp 173) (.const (.bool false)), none⟩,
    ⟨some 175, .move (.tmp 174), none⟩,
    ⟨some 176, .move (.tmp 21), some (175, true)⟩,
    ⟨some 177, .call { callee := .builtin .len, args := #[.tmp 176], argTypes := #[22] }, some (175, true)⟩,
    ⟨some 178, .move (.tmp 10), some (175, true)⟩,
    ⟨some 179, .binOp .gtr 3 (.tmp 177) (.tmp 178) 3, some (175, true)⟩,
    ⟨some 180, .pick (.tmp 175) (.tmp 179) (.const (.bool false)), none⟩,
    ⟨some 4, .assign (.tmp 180), none⟩])
  .ret))))))))))))))))
theorem hd12 : Try.f12.body.map dec = some c12 := by kernel_rfl
theorem e12 {R : AV → AH → Prop} {h : AH} (x0 x1 : AV) (H : h.wf → AI Try.prog c12 (RetQ Try.prog [.tmp 4] R) [x0, x1, un, un, un, un, un, un, un, un, un, un, un, un, un, un, un, un, un, un, un, un, un, un, un, un, un, un, un, un, un, un, un, un, un, un, un, un, un, un, un, un, un, un, un, un, un, un, un, un, un, un, un, un, un, un, un, un, un, un, un, un, un, un, un, un, un, un, un, un, un, un, un, un, un, un, un, un, un, un, un, un, un, un, un, un, un, un, un, un, un, un, un, un, un, un, un, un, un, un, un, un, un, un, un, un, un, un, un, un, un, un, un, un, un, un, un, un, un, un, un, un, un, un, un, un, un, un, un, un, un, un, un, un, un, un, un, un, un, un, un, un, un, un, un, un, un, un, un, un, un, un, un, un, un, un, un, un, un, un, un, un, un, un, un, un, un, un, un, un, un, un, un, un, un, un, un, un, un, un, un] h) : AC Try.prog 12 [x0, x1] h R :=
  AC_of' (rs := [.tmp 4]) Try.func12 (by kernel_rfl) hd12 Try.ntmps12 rfl H

end Go.Proofs.Ytlgjakoeogpjlaa
