/- The short forms of the functions' code, and facts on types. -/
import Derived.Test.YtlgjakoeogpjlaaProg
import Derived.Test.YtlgjakoeogpjlaaD3
namespace Go.Proofs.Ytlgjakoeogpjlaa
open Go.AL
set_option linter.unusedVariables false
theorem sz0 : szT Try.prog 0 = some 1 := by kernel_rfl
theorem by0 : byT Try.prog 0 = some 0 := by kernel_rfl
theorem ag0 : aggT Try.prog 0 = some false := by kernel_rfl
instance jsz0 : Tsz Try.prog 0 1 := ⟨sz0⟩
instance jby0 : Tby Try.prog 0 0 := ⟨by0⟩
instance jag0 : Tag Try.prog 0 false := ⟨ag0⟩
theorem sz1 : szT Try.prog 1 = some 1 := by kernel_rfl
theorem by1 : byT Try.prog 1 = some 8 := by kernel_rfl
theorem ag1 : aggT Try.prog 1 = some false := by kernel_rfl
instance jsz1 : Tsz Try.prog 1 1 := ⟨sz1⟩
instance jby1 : Tby Try.prog 1 8 := ⟨by1⟩
instance jag1 : Tag Try.prog 1 false := ⟨ag1⟩
theorem ze1 : zeroA Try.prog 1 = some .nf := by kernel_rfl
instance jze1 : Tze Try.prog 1 (.nf) := ⟨ze1⟩
theorem sz3 : szT Try.prog 3 = some 1 := by kernel_rfl
theorem by3 : byT Try.prog 3 = some 8 := by kernel_rfl
theorem ag3 : aggT Try.prog 3 = some false := by kernel_rfl
instance jsz3 : Tsz Try.prog 3 1 := ⟨sz3⟩
instance jby3 : Tby Try.prog 3 8 := ⟨by3⟩
instance jag3 : Tag Try.prog 3 false := ⟨ag3⟩
instance jik3 : Tik Try.prog 3 .i64 := ⟨Try.underlying3⟩
theorem ze3 : zeroA Try.prog 3 = some (.i .i64 0) := by kernel_rfl
instance jze3 : Tze Try.prog 3 (.i .i64 0) := ⟨ze3⟩
theorem sz4 : szT Try.prog 4 = some 1 := by kernel_rfl
theorem by4 : byT Try.prog 4 = some 1 := by kernel_rfl
theorem ag4 : aggT Try.prog 4 = some false := by kernel_rfl
instance jsz4 : Tsz Try.prog 4 1 := ⟨sz4⟩
instance jby4 : Tby Try.prog 4 1 := ⟨by4⟩
instance jag4 : Tag Try.prog 4 false := ⟨ag4⟩
instance jbo4 : Tbo Try.prog 4 := ⟨Try.underlying4⟩
theorem ze4 : zeroA Try.prog 4 = some (.b false) := by kernel_rfl
instance jze4 : Tze Try.prog 4 (.b false) := ⟨ze4⟩
theorem sz22 : szT Try.prog 22 = some 1 := by kernel_rfl
theorem by22 : byT Try.prog 22 = some 24 := by kernel_rfl
theorem ag22 : aggT Try.prog 22 = some false := by kernel_rfl
instance jsz22 : Tsz Try.prog 22 1 := ⟨sz22⟩
instance jby22 : Tby Try.prog 22 24 := ⟨by22⟩
instance jag22 : Tag Try.prog 22 false := ⟨ag22⟩
instance jsl22 : Tsl Try.prog 22 3 := ⟨Try.underlying22⟩
theorem ze22 : zeroA Try.prog 22 = some .ns := by kernel_rfl
instance jze22 : Tze Try.prog 22 (.ns) := ⟨ze22⟩
theorem sz30 : szT Try.prog 30 = some 1 := by kernel_rfl
theorem by30 : byT Try.prog 30 = some 24 := by kernel_rfl
theorem ag30 : aggT Try.prog 30 = some false := by kernel_rfl
instance jsz30 : Tsz Try.prog 30 1 := ⟨sz30⟩
instance jby30 : Tby Try.prog 30 24 := ⟨by30⟩
instance jag30 : Tag Try.prog 30 false := ⟨ag30⟩
instance jsl30 : Tsl Try.prog 30 22 := ⟨Try.underlying30⟩
theorem ze30 : zeroA Try.prog 30 = some .ns := by kernel_rfl
instance jze30 : Tze Try.prog 30 (.ns) := ⟨ze30⟩
theorem sz38 : szT Try.prog 38 = some 1 := by kernel_rfl
theorem by38 : byT Try.prog 38 = some 8 := by kernel_rfl
theorem ag38 : aggT Try.prog 38 = some false := by kernel_rfl
instance jsz38 : Tsz Try.prog 38 1 := ⟨sz38⟩
instance jby38 : Tby Try.prog 38 8 := ⟨by38⟩
instance jag38 : Tag Try.prog 38 false := ⟨ag38⟩
theorem ze38 : zeroA Try.prog 38 = some .nf := by kernel_rfl
instance jze38 : Tze Try.prog 38 (.nf) := ⟨ze38⟩

/-- spec.l1In -/
def c62 : IC :=
  (.seq
  (.reg [
    ⟨some 6, .assign (.const (.bool false)), none⟩])
  (.seq
  (.reg [
    ⟨some 7, .move (.tmp 0), none⟩,
    ⟨some 8, .move (.tmp 1), none⟩,
    ⟨some 9, .binOp .geq 3 (.tmp 7) (.tmp 8) 3, none⟩,
    ⟨some 10, .move (.tmp 9), none⟩,
    ⟨some 11, .move (.tmp 0), some (10, true)⟩,
    ⟨some 12, .move (.tmp 2), some (10, true)⟩,
    ⟨some 13, .binOp .leq 3 (.tmp 11) (.tmp 12) 3, some (10, true)⟩,
    ⟨some 14, .pick (.tmp 10) (.tmp 13) (.const (.bool false)), none⟩,
    ⟨some 6, .assign (.tmp 14), none⟩])
  .ret))
theorem hd62 : Try.f62.body.map dec = some c62 := by kernel_rfl
theorem e62 {R : AV → AH → Prop} {h : AH} (x0 x1 x2 : AV) (H : h.wf → AI Try.prog c62 (RetQ Try.prog [.tmp 6] R) [x0, x1, x2, un, un, un, un, un, un, un, un, un, un, un, un] h) : AC Try.prog 62 [x0, x1, x2] h R :=
  AC_of' (rs := [.tmp 6]) Try.func62 (by kernel_rfl) hd62 Try.ntmps62 rfl H

/-- spec.shNumber -/
def c56 : IC :=
  (.seq
  (.reg [
    ⟨some 2, .assign (.const (.bool false)), none⟩])
  (.seq
  (.reg [
    ⟨some 3, .move (.tmp 0), none⟩,
    ⟨some 4, .call { callee := .value (.func 62), args := #[.tmp 3, .const (.int .i64 1), .const (.int .i64 100)], argTypes := #[3, 3, 3] }, none⟩,
    ⟨some 2, .assign (.tmp 4), none⟩])
  .ret))
theorem hd56 : Try.f56.body.map dec = some c56 := by kernel_rfl
theorem e56 {R : AV → AH → Prop} {h : AH} (x0 : AV) (H : h.wf → AI Try.prog c56 (RetQ Try.prog [.tmp 2] R) [x0, un, un, un, un] h) : AC Try.prog 56 [x0] h R :=
  AC_of' (rs := [.tmp 2]) Try.func56 (by kernel_rfl) hd56 Try.ntmps56 rfl H

/-- spec.l1Own -/
def c88 : IC :=
  (.seq
  (.reg [
    ⟨some 2, .assign (.const (.slice none 0 0)), none⟩])
  (.seq
  (.reg [
    ⟨some 3, .buildSlice 22 0 #[], none⟩,
    ⟨some 4, .move (.tmp 0), none⟩,
    ⟨some 5, .call { callee := .builtin .append, args := #[.tmp 3, .tmp 4], argTypes := #[22, 22] }, none⟩,
    ⟨some 2, .assign (.tmp 5), none⟩])
  .ret))
theorem hd88 : Try.f88.body.map dec = some c88 := by kernel_rfl
theorem e88 {R : AV → AH → Prop} {h : AH} (x0 : AV) (H : h.wf → AI Try.prog c88 (RetQ Try.prog [.tmp 2] R) [x0, un, un, un, un, un] h) : AC Try.prog 88 [x0] h R :=
  AC_of' (rs := [.tmp 2]) Try.func88 (by kernel_rfl) hd88 Try.ntmps88 rfl H

/-- spec.shSearch -/
def c58 : IC :=
  (.seq
  (.reg [
    ⟨some 8, .assign (.const (.slice none 0 0)), none⟩])
  (.seq
  (.reg [
    ⟨some 14, .move (.tmp 0), none⟩,
    ⟨some 15, .move (.tmp 0), none⟩,
    ⟨some 16, .call { callee := .builtin .len, args := #[.tmp 15], argTypes := #[22] }, none⟩,
    ⟨some 17, .binOp .sub 3 (.tmp 16) (.const (.int .i64 1)) 3, none⟩,
    ⟨some 18, .indexAddr 22 (.tmp 14) (.tmp 17), none⟩,
    ⟨some 19, .load 3 (.tmp 18), none⟩,
    ⟨some 9, .assign (.tmp 19), none⟩])
  (.seq
  (.seq
  (.reg [
    ⟨some 20, .move (.tmp 2), none⟩,
    ⟨some 21, .binOp .eql 3 (.tmp 20) (.const (.int .i64 0)) 3, none⟩])
  (.cond (.tmp 21)
    (.seq
    (.seq
    (.reg [
      ⟨some 22, .move (.tmp 9), none⟩,
      ⟨some 23, .move (.tmp 1), none⟩,
      ⟨some 24, .binOp .eql 3 (.tmp 22) (.tmp 23) 3, none⟩])
    (.cond (.tmp 24)
      (.seq
      (.reg [
        ⟨some 25, .move (.tmp 0), none⟩,
        ⟨some 26, .call { callee := .value (.func 88), args := #[.tmp 25], argTypes := #[22] }, none⟩,
        ⟨some 27, .buildSlice 30 1 #[(0, .tmp 26)], none⟩,
        ⟨some 8, .assign (.tmp 27), none⟩])
      .ret)
      .skip))
    (.seq
    (.reg [
      ⟨some 8, .assign (.const (.slice none 0 0)), none⟩])
    .ret))
    .skip))
  (.seq
  (.reg [
    ⟨some 10, .assign (.const (.slice none 0 0)), none⟩])
  (.seq
  (.seq
  (.reg [
    ⟨some 28, .move (.tmp 0), none⟩,
    ⟨some 29, .call { callee := .builtin .len, args := #[.tmp 28], argTypes := #[22] }, none⟩,
    ⟨some 30, .move (.const (.int .i64 0)), none⟩])
  (.block 0
  (.loop
    (.seq
    (.reg [
      ⟨some 31, .binOp .lss 3 (.tmp 30) (.tmp 29) 3, none⟩])
    (.seq
    (.cond (.tmp 31)
      .skip
      (.exit 0))
    (.seq
    (.block 1
    (.seq
    (.reg [
      ⟨some 32, .indexAddr 22 (.tmp 28) (.tmp 30), none⟩,
      ⟨some 33, .load 3 (.tmp 32), none⟩,
      ⟨some 12, .assign (.tmp 33), none⟩])
    (.seq
    (.reg [
      ⟨some 34, .move (.tmp 9), none⟩,
      ⟨some 35, .move (.tmp 12), none⟩,
      ⟨some 36, .binOp .add 3 (.tmp 34) (.tmp 35) 3, none⟩,
      ⟨some 13, .assign (.tmp 36), none⟩])
    (.seq
    (.seq
    (.reg [
      ⟨some 37, .move (.tmp 13), none⟩,
      ⟨some 38, .move (.tmp 1), none⟩,
      ⟨some 39, .binOp .gtr 3 (.tmp 37) (.tmp 38) 3, none⟩,
      ⟨some 40, .move (.tmp 39), none⟩,
      ⟨some 41, .move (.tmp 13), some (40, false)⟩,
      ⟨some 42, .move (.tmp 2), some (40, false)⟩,
      ⟨some 43, .binOp .sub 3 (.tmp 42) (.const (.int .i64 1)) 3, some (40, false)⟩,
      ⟨some 44, .binOp .shl 3 (.tmp 41) (.tmp 43) 3, some (40, false)⟩,
      ⟨some 45, .move (.tmp 1), some (40, false)⟩,
      ⟨some 46, .binOp .lss 3 (.tmp 44) (.tmp 45) 3, some (40, false)⟩,
      ⟨some 47, .pick (.tmp 40) (.const (.bool true)) (.tmp 46), none⟩,
      ⟨some 48, .move (.tmp 47), none⟩,
      ⟨some 49, .move (.tmp 10), some (48, false)⟩,
      ⟨some 50, .call { callee := .builtin .len, args := #[.tmp 49], argTypes := #[30] }, some (48, false)⟩,
      ⟨some 51, .move (.tmp 3), some (48, false)⟩,
      ⟨some 52, .binOp .geq 3 (.tmp 50) (.tmp 51) 3, some (48, false)⟩,
      ⟨some 53, .pick (.tmp 48) (.const (.bool true)) (.tmp 52), none⟩])
    (.cond (.tmp 53)
      (.exit 1)
      .skip))
    (.reg [
      ⟨some 54, .move (.tmp 10), none⟩,
      ⟨some 55, .move (.tmp 0), none⟩,
      ⟨some 56, .call { callee := .value (.func 88), args := #[.tmp 55], argTypes := #[22] }, none⟩,
      ⟨some 57, .move (.tmp 13), none⟩,
      ⟨some 58, .buildSlice 22 1 #[(0, .tmp 57)], none⟩,
      ⟨some 59, .call { callee := .builtin .append, args := #[.tmp 56, .tmp 58], argTypes := #[22, 22] }, none⟩,
      ⟨some 60, .move (.tmp 1), none⟩,
      ⟨some 61, .move (.tmp 2), none⟩,
      ⟨some 62, .binOp .sub 3 (.tmp 61) (.const (.int .i64 1)) 3, none⟩,
      ⟨some 63, .move (.tmp 3), none⟩,
      ⟨some 64, .move (.tmp 10), none⟩,
      ⟨some 65, .call { callee := .builtin .len, args := #[.tmp 64], argTypes := #[30] }, none⟩,
      ⟨some 66, .binOp .sub 3 (.tmp 63) (.tmp 65) 3, none⟩,
      ⟨some 67, .call { callee := .value (.func 58), args := #[.tmp 59, .tmp 60, .tmp 62, .tmp 66], argTypes := #[22, 3, 3, 3] }, none⟩,
      ⟨some 68, .call { callee := .builtin .append, args := #[.tmp 54, .tmp 67], argTypes := #[30, 30] }, none⟩,
      ⟨some 10, .assign (.tmp 68), none⟩])))))
    (.reg [
      ⟨some 69, .binOp .add 3 (.tmp 30) (.const (.int .i64 1)) 3, none⟩,
      ⟨some 30, .move (.tmp 69), none⟩])))))))
  (.seq
  (.reg [
    ⟨some 70, .move (.tmp 10), none⟩,
    ⟨some 8, .assign (.tmp 70), none⟩])
  .ret))))))
theorem hd58 : Try.f58.body.map dec = some c58 := by kernel_rfl
theorem e58 {R : AV → AH → Prop} {h : AH} (x0 x1 x2 x3 : AV) (H : h.wf → AI Try.prog c58 (RetQ Try.prog [.tmp 8] R) [x0, x1, x2, x3, un, un, un, un, un, un, un, un, un, un, un, un, un, un, un, un, un, un, un, un, un, un, un, un, un, un, un, un, un, un, un, un, un, un, un, un, un, un, un, un, un, un, un, un, un, un, un, un, un, un, un, un, un, un, un, un, un, un, un, un, un, un, un, un, un, un, un] h) : AC Try.prog 58 [x0, x1, x2, x3] h R :=
  AC_of' (rs := [.tmp 8]) Try.func58 (by kernel_rfl) hd58 Try.ntmps58 rfl H

/-- spec.shLength -/
def c67 : IC :=
  (.seq
  (.reg [
    ⟨some 2, .assign (.const (.int .i64 0)), none⟩])
  (.seq
  (.reg [
    ⟨some 3, .assign (.const (.int .i64 0)), none⟩])
  (.block 0
  (.loop
    (.seq
    (.block 1
    (.seq
    (.reg [
      ⟨some 6, .buildSlice 22 1 #[(0, .const (.int .i64 1))], none⟩,
      ⟨some 7, .move (.tmp 0), none⟩,
      ⟨some 8, .move (.tmp 3), none⟩,
      ⟨some 9, .call { callee := .value (.func 58), args := #[.tmp 6, .tmp 7, .tmp 8, .const (.int .i64 1)], argTypes := #[22, 3, 3, 3] }, none⟩,
      ⟨some 10, .call { callee := .builtin .len, args := #[.tmp 9], argTypes := #[30] }, none⟩,
      ⟨some 11, .binOp .gtr 3 (.tmp 10) (.const (.int .i64 0)) 3, none⟩])
    (.cond (.tmp 11)
      (.seq
      (.reg [
        ⟨some 12, .move (.tmp 3), none⟩,
        ⟨some 2, .assign (.tmp 12), none⟩])
      .ret)
      .skip)))
    (.reg [
      ⟨some 4, .move (.tmp 3), none⟩,
      ⟨some 5, .binOp .add 3 (.tmp 4) (.const (.int .i64 1)) 3, none⟩,
      ⟨some 3, .assign (.tmp 5), none⟩]))))))
theorem hd67 : Try.f67.body.map dec = some c67 := by kernel_rfl
theorem e67 {R : AV → AH → Prop} {h : AH} (x0 : AV) (H : h.wf → AI Try.prog c67 (RetQ Try.prog [.tmp 2] R) [x0, un, un, un, un, un, un, un, un, un, un, un, un] h) : AC Try.prog 67 [x0] h R :=
  AC_of' (rs := [.tmp 2]) Try.func67 (by kernel_rfl) hd67 Try.ntmps67 rfl H

/-- spec.AllShortest -/
def c26 : IC :=
  (.seq
  (.reg [
    ⟨some 2, .assign (.const (.slice none 0 0)), none⟩,
    ⟨some 3, .assign (.const (.bool false)), none⟩])
  (.seq
  (.seq
  (.reg [
    ⟨some 5, .move (.tmp 0), none⟩,
    ⟨some 6, .call { callee := .value (.func 56), args := #[.tmp 5], argTypes := #[3] }, none⟩,
    ⟨some 7, .unOp .not 4 (.tmp 6), none⟩])
  (.cond (.tmp 7)
    (.seq
    (.reg [
      ⟨some 2, .assign (.const (.slice none 0 0)), none⟩,
      ⟨some 3, .assign (.const (.bool false)), none⟩])
    .ret)
    .skip))
  (.seq
  (.reg [
    ⟨some 8, .buildSlice 22 1 #[(0, .const (.int .i64 1))], none⟩,
    ⟨some 9, .move (.tmp 0), none⟩,
    ⟨some 10, .move (.tmp 0), none⟩,
    ⟨some 11, .call { callee := .value (.func 67), args := #[.tmp 10], argTypes := #[3] }, none⟩,
    ⟨some 12, .call { callee := .value (.func 58), args := #[.tmp 8, .tmp 9, .tmp 11, .const (.int .i64 201)], argTypes := #[22, 3, 3, 3] }, none⟩,
    ⟨some 4, .assign (.tmp 12), none⟩])
  (.seq
  (.seq
  (.reg [
    ⟨some 13, .move (.tmp 4), none⟩,
    ⟨some 14, .call { callee := .builtin .len, args := #[.tmp 13], argTypes := #[30] }, none⟩,
    ⟨some 15, .binOp .gtr 3 (.tmp 14) (.const (.int .i64 200)) 3, none⟩])
  (.cond (.tmp 15)
    (.seq
    (.reg [
      ⟨some 2, .assign (.const (.slice none 0 0)), none⟩,
      ⟨some 3, .assign (.const (.bool false)), none⟩])
    .ret)
    .skip))
  (.seq
  (.reg [
    ⟨some 16, .move (.tmp 4), none⟩,
    ⟨some 2, .assign (.tmp 16), none⟩,
    ⟨some 3, .assign (.const (.bool true)), none⟩])
  .ret)))))
theorem hd26 : Try.f26.body.map dec = some c26 := by kernel_rfl
theorem e26 {R : AV → AH → Prop} {h : AH} (x0 : AV) (H : h.wf → AI Try.prog c26 (RetQ Try.prog [.tmp 2, .tmp 3] R) [x0, un, un, un, un, un, un, un, un, un, un, un, un, un, un, un, un] h) : AC Try.prog 26 [x0] h R :=
  AC_of' (rs := [.tmp 2, .tmp 3]) Try.func26 (by kernel_rfl) hd26 Try.ntmps26 rfl H

/-- impl.in -/
def c65 : IC :=
  (.seq
  (.reg [
    ⟨some 6, .assign (.const (.bool false)), none⟩])
  (.seq
  (.reg [
    ⟨some 7, .move (.tmp 0), none⟩,
    ⟨some 8, .move (.tmp 1), none⟩,
    ⟨some 9, .binOp .geq 3 (.tmp 7) (.tmp 8) 3, none⟩,
    ⟨some 10, .move (.tmp 9), none⟩,
    ⟨some 11, .move (.tmp 0), some (10, true)⟩,
    ⟨some 12, .move (.tmp 2), some (10, true)⟩,
    ⟨some 13, .binOp .leq 3 (.tmp 11) (.tmp 12) 3, some (10, true)⟩,
    ⟨some 14, .pick (.tmp 10) (.tmp 13) (.const (.bool false)), none⟩,
    ⟨some 6, .assign (.tmp 14), none⟩])
  .ret))
theorem hd65 : Try.f65.body.map dec = some c65 := by kernel_rfl
theorem e65 {R : AV → AH → Prop} {h : AH} (x0 x1 x2 : AV) (H : h.wf → AI Try.prog c65 (RetQ Try.prog [.tmp 6] R) [x0, x1, x2, un, un, un, un, un, un, un, un, un, un, un, un] h) : AC Try.prog 65 [x0, x1, x2] h R :=
  AC_of' (rs := [.tmp 6]) Try.func65 (by kernel_rfl) hd65 Try.ntmps65 rfl H

/-- impl.isShort -/
def c59 : IC :=
  (.seq
  (.reg [
    ⟨some 2, .assign (.const (.bool false)), none⟩])
  (.seq
  (.reg [
    ⟨some 3, .move (.tmp 0), none⟩,
    ⟨some 4, .call { callee := .value (.func 65), args := #[.tmp 3, .const (.int .i64 1), .const (.int .i64 100)], argTypes := #[3, 3, 3] }, none⟩,
    ⟨some 2, .assign (.tmp 4), none⟩])
  .ret))
theorem hd59 : Try.f59.body.map dec = some c59 := by kernel_rfl
theorem e59 {R : AV → AH → Prop} {h : AH} (x0 : AV) (H : h.wf → AI Try.prog c59 (RetQ Try.prog [.tmp 2] R) [x0, un, un, un, un] h) : AC Try.prog 59 [x0] h R :=
  AC_of' (rs := [.tmp 2]) Try.func59 (by kernel_rfl) hd59 Try.ntmps59 rfl H

/-- slices.Clip[[]int,int] -/
def c92 : IC :=
  (.seq
  (.reg [
    ⟨some 2, .assign (.const (.slice none 0 0)), none⟩])
  (.seq
  (.reg [
    ⟨some 3, .move (.tmp 0), none⟩,
    ⟨some 4, .move (.tmp 0), none⟩,
    ⟨some 5, .call { callee := .builtin .len, args := #[.tmp 4], argTypes := #[22] }, none⟩,
    ⟨some 6, .move (.tmp 0), none⟩,
    ⟨some 7, .call { callee := .builtin .len, args := #[.tmp 6], argTypes := #[22] }, none⟩,
    ⟨some 8, .slice 22 (.tmp 3) none (some (.tmp 5)) (some (.tmp 7)), none⟩,
    ⟨some 2, .assign (.tmp 8), none⟩])
  .ret))
theorem hd92 : Try.f92.body.map dec = some c92 := by kernel_rfl
theorem e92 {R : AV → AH → Prop} {h : AH} (x0 : AV) (H : h.wf → AI Try.prog c92 (RetQ Try.prog [.tmp 2] R) [x0, un, un, un, un, un, un, un, un] h) : AC Try.prog 92 [x0] h R :=
  AC_of' (rs := [.tmp 2]) Try.func92 (by kernel_rfl) hd92 Try.ntmps92 rfl H

/-- impl.stars -/
def c70 : IC :=
  (.seq
  (.reg [
    ⟨some 8, .assign (.const (.bool false)), none⟩])
  (.seq
  (.reg [
    ⟨some 13, .move (.tmp 2), none⟩,
    ⟨some 14, .move (.tmp 2), none⟩,
    ⟨some 15, .call { callee := .builtin .len, args := #[.tmp 14], argTypes := #[22] }, none⟩,
    ⟨some 16, .binOp .sub 3 (.tmp 15) (.const (.int .i64 1)) 3, none⟩,
    ⟨some 17, .indexAddr 22 (.tmp 13) (.tmp 16), none⟩,
    ⟨some 18, .load 3 (.tmp 17), none⟩,
    ⟨some 9, .assign (.tmp 18), none⟩])
  (.seq
  (.reg [
    ⟨some 19, .move (.tmp 1), none⟩,
    ⟨some 20, .move (.tmp 2), none⟩,
    ⟨some 21, .call { callee := .builtin .len, args := #[.tmp 20], argTypes := #[22] }, none⟩,
    ⟨some 22, .binOp .sub 3 (.tmp 19) (.tmp 21) 3, none⟩,
    ⟨some 23, .binOp .add 3 (.tmp 22) (.const (.int .i64 1)) 3, none⟩,
    ⟨some 10, .assign (.tmp 23), none⟩])
  (.seq
  (.block 0
  (.seq
  (.reg [
    ⟨some 25, .move (.tmp 10), none⟩,
    ⟨some 26, .binOp .eql 3 (.tmp 25) (.const (.int .i64 0)) 3, none⟩,
    ⟨some 24, .assign (.tmp 26), none⟩])
  (.cond (.tmp 24)
    (.seq
    (.reg [
      ⟨some 27, .move (.tmp 9), none⟩,
      ⟨some 28, .move (.tmp 0), none⟩,
      ⟨some 29, .binOp .eql 3 (.tmp 27) (.tmp 28) 3, none⟩,
      ⟨some 30, .move (.tmp 29), none⟩,
      ⟨some 31, .move (.tmp 3), some (30, true)⟩,
      ⟨some 32, .move (.tmp 2), some (30, true)⟩,
      ⟨some 33, .call { callee := .value (.tmp 31), args := #[.tmp 32], argTypes := #[22] }, some (30, true)⟩,
      ⟨some 34, .pick (.tmp 30) (.tmp 33) (.const (.bool false)), none⟩,
      ⟨some 8, .assign (.tmp 34), none⟩])
    .ret)
    (.seq
    (.reg [
      ⟨some 36, .move (.tmp 9), none⟩,
      ⟨some 37, .move (.tmp 0), none⟩,
      ⟨some 38, .binOp .geq 3 (.tmp 36) (.tmp 37) 3, none⟩,
      ⟨some 39, .move (.tmp 38), none⟩,
      ⟨some 40, .move (.tmp 9), some (39, false)⟩,
      ⟨some 41, .move (.tmp 10), some (39, false)⟩,
      ⟨some 42, .binOp .shl 3 (.tmp 40) (.tmp 41) 3, some (39, false)⟩,
      ⟨some 43, .move (.tmp 0), some (39, false)⟩,
      ⟨some 44, .binOp .lss 3 (.tmp 42) (.tmp 43) 3, some (39, false)⟩,
      ⟨some 45, .pick (.tmp 39) (.const (.bool true)) (.tmp 44), none⟩,
      ⟨some 35, .assign (.tmp 45), none⟩])
    (.cond (.tmp 35)
      (.seq
      (.reg [
        ⟨some 8, .assign (.const (.bool false)), none⟩])
      .ret)
      .skip)))))
  (.seq
  (.seq
  (.reg [
    ⟨some 46, .move (.tmp 2), none⟩,
    ⟨some 47, .call { callee := .builtin .len, args := #[.tmp 46], argTypes := #[22] }, none⟩,
    ⟨some 48, .move (.const (.int .i64 0)), none⟩])
  (.block 1
  (.loop
    (.seq
    (.reg [
      ⟨some 49, .binOp .lss 3 (.tmp 48) (.tmp 47) 3, none⟩])
    (.seq
    (.cond (.tmp 49)
      .skip
      (.exit 1))
    (.seq
    (.block 2
    (.seq
    (.reg [
      ⟨some 50, .indexAddr 22 (.tmp 46) (.tmp 48), none⟩,
      ⟨some 51, .load 3 (.tmp 50), none⟩,
      ⟨some 12, .assign (.tmp 51), none⟩])
    (.seq
    (.reg [
      ⟨some 52, .move (.tmp 0), none⟩,
      ⟨some 53, .move (.tmp 1), none⟩,
      ⟨some 54, .move (.tmp 2), none⟩,
      ⟨some 55, .call { callee := .value (.func 92), args := #[.tmp 54], argTypes := #[22] }, none⟩,
      ⟨some 56, .move (.tmp 9), none⟩,
      ⟨some 57, .move (.tmp 12), none⟩,
      ⟨some 58, .binOp .add 3 (.tmp 56) (.tmp 57) 3, none⟩,
      ⟨some 59, .buildSlice 22 1 #[(0, .tmp 58)], none⟩,
      ⟨some 60, .call { callee := .builtin .append, args := #[.tmp 55, .tmp 59], argTypes := #[22, 22] }, none⟩,
      ⟨some 61, .move (.tmp 3), none⟩,
      ⟨some 62, .call { callee := .value (.func 70), args := #[.tmp 52, .tmp 53, .tmp 60, .tmp 61], argTypes := #[3, 3, 22, 38] }, none⟩])
    (.cond (.tmp 62)
      (.seq
      (.reg [
        ⟨some 8, .assign (.const (.bool true)), none⟩])
      .ret)
      .skip))))
    (.reg [
      ⟨some 63, .binOp .add 3 (.tmp 48) (.const (.int .i64 1)) 3, none⟩,
      ⟨some 48, .move (.tmp 63), none⟩])))))))
  (.seq
  (.reg [
    ⟨some 8, .assign (.const (.bool false)), none⟩])
  .ret))))))
theorem hd70 : Try.f70.body.map dec = some c70 := by kernel_rfl
theorem e70 {R : AV → AH → Prop} {h : AH} (x0 x1 x2 x3 : AV) (H : h.wf → AI Try.prog c70 (RetQ Try.prog [.tmp 8] R) [x0, x1, x2, x3, un, un, un, un, un, un, un, un, un, un, un, un, un, un, un, un, un, un, un, un, un, un, un, un, un, un, un, un, un, un, un, un, un, un, un, un, un, un, un, un, un, un, un, un, un, un, un, un, un, un, un, un, un, un, un, un, un, un, un, un] h) : AC Try.prog 70 [x0, x1, x2, x3] h R :=
  AC_of' (rs := [.tmp 8]) Try.func70 (by kernel_rfl) hd70 Try.ntmps70 rfl H

/-- slices.Clone[[]int,int] -/
def c72 : IC :=
  (.seq
  (.reg [
    ⟨some 2, .assign (.const (.slice none 0 0)), none⟩])
  (.seq
  (.seq
  (.reg [
    ⟨some 3, .move (.tmp 0), none⟩,
    ⟨some 4, .binOp .eql 22 (.tmp 3) (.const (.slice none 0 0)) 22, none⟩])
  (.cond (.tmp 4)
    (.seq
    (.reg [
      ⟨some 2, .assign (.const (.slice none 0 0)), none⟩])
    .ret)
    .skip))
  (.seq
  (.reg [
    ⟨some 5, .buildSlice 22 0 #[], none⟩,
    ⟨some 6, .move (.tmp 0), none⟩,
    ⟨some 7, .call { callee := .builtin .append, args := #[.tmp 5, .tmp 6], argTypes := #[22, 22] }, none⟩,
    ⟨some 2, .assign (.tmp 7), none⟩])
  .ret)))
theorem hd72 : Try.f72.body.map dec = some c72 := by kernel_rfl
theorem e72 {R : AV → AH → Prop} {h : AH} (x0 : AV) (H : h.wf → AI Try.prog c72 (RetQ Try.prog [.tmp 2] R) [x0, un, un, un, un, un, un, un] h) : AC Try.prog 72 [x0] h R :=
  AC_of' (rs := [.tmp 2]) Try.func72 (by kernel_rfl) hd72 Try.ntmps72 rfl H

/-- impl.firstStar$1 -/
def c89 : IC :=
  (.seq
  (.reg [
    ⟨some 3, .assign (.const (.bool false)), none⟩])
  (.seq
  (.reg [
    ⟨some 4, .move (.tmp 0), none⟩,
    ⟨some 5, .call { callee := .value (.func 72), args := #[.tmp 4], argTypes := #[22] }, none⟩,
    ⟨none, .store 22 (.tmp 1) (.tmp 5), none⟩])
  (.seq
  (.reg [
    ⟨some 3, .assign (.const (.bool true)), none⟩])
  .ret)))
theorem hd89 : Try.f89.body.map dec = some c89 := by kernel_rfl
theorem e89 {R : AV → AH → Prop} {h : AH} (x0 x1 : AV) (H : h.wf → AI Try.prog c89 (RetQ Try.prog [.tmp 3] R) [x0, x1, un, un, un, un] h) : AC Try.prog 89 [x0, x1] h R :=
  AC_of' (rs := [.tmp 3]) Try.func89 (by kernel_rfl) hd89 Try.ntmps89 rfl H

/-- impl.firstStar -/
def c61 : IC :=
  (.seq
  (.reg [
    ⟨some 4, .assign (.const (.slice none 0 0)), none⟩,
    ⟨some 5, .assign (.const (.bool false)), none⟩])
  (.seq
  (.reg [
    ⟨some 8, .buildSlice 22 0 #[], none⟩,
    ⟨some 6, .alloc 22, none⟩,
    ⟨none, .store 22 (.tmp 6) (.tmp 8), none⟩])
  (.seq
  (.reg [
    ⟨some 9, .move (.tmp 0), none⟩,
    ⟨some 10, .move (.tmp 1), none⟩,
    ⟨some 11, .buildSlice 22 1 #[(0, .const (.int .i64 1))], none⟩,
    ⟨some 12, .makeFunc (.func 89) #[] #[.tmp 6], none⟩,
    ⟨some 13, .call { callee := .value (.func 70), args := #[.tmp 9, .tmp 10, .tmp 11, .tmp 12], argTypes := #[3, 3, 22, 38] }, none⟩,
    ⟨some 7, .assign (.tmp 13), none⟩])
  (.seq
  (.reg [
    ⟨some 14, .load 22 (.tmp 6), none⟩,
    ⟨some 15, .move (.tmp 7), none⟩,
    ⟨some 4, .assign (.tmp 14), none⟩,
    ⟨some 5, .assign (.tmp 15), none⟩])
  .ret))))
theorem hd61 : Try.f61.body.map dec = some c61 := by kernel_rfl
theorem e61 {R : AV → AH → Prop} {h : AH} (x0 x1 : AV) (H : h.wf → AI Try.prog c61 (RetQ Try.prog [.tmp 4, .tmp 5] R) [x0, x1, un, un, un, un, un, un, un, un, un, un, un, un, un, un] h) : AC Try.prog 61 [x0, x1] h R :=
  AC_of' (rs := [.tmp 4, .tmp 5]) Try.func61 (by kernel_rfl) hd61 Try.ntmps61 rfl H

/-- impl.shortest -/
def c68 : IC :=
  (.seq
  (.reg [
    ⟨some 2, .assign (.const (.slice none 0 0)), none⟩])
  (.seq
  (.reg [
    ⟨some 3, .assign (.const (.int .i64 0)), none⟩])
  (.block 0
  (.loop
    (.seq
    (.block 1
    (.seq
    (.reg [
      ⟨some 9, .move (.tmp 0), none⟩,
      ⟨some 10, .move (.tmp 3), none⟩,
      ⟨some 11, .call { callee := .value (.func 61), args := #[.tmp 9, .tmp 10], argTypes := #[3, 3] }, none⟩,
      ⟨some 8, .move (.tmp 11), none⟩,
      ⟨some 12, .extract (.tmp 8) 0, none⟩,
      ⟨some 13, .extract (.tmp 8) 1, none⟩,
      ⟨some 4, .assign (.tmp 12), none⟩,
      ⟨some 5, .assign (.tmp 13), none⟩])
    (.seq
    (.reg [
      ⟨some 14, .move (.tmp 5), none⟩])
    (.cond (.tmp 14)
      (.seq
      (.reg [
        ⟨some 15, .move (.tmp 4), none⟩,
        ⟨some 2, .assign (.tmp 15), none⟩])
      .ret)
      .skip))))
    (.reg [
      ⟨some 6, .move (.tmp 3), none⟩,
      ⟨some 7, .binOp .add 3 (.tmp 6) (.const (.int .i64 1)) 3, none⟩,
      ⟨some 3, .assign (.tmp 7), none⟩]))))))
theorem hd68 : Try.f68.body.map dec = some c68 := by kernel_rfl
theorem e68 {R : AV → AH → Prop} {h : AH} (x0 : AV) (H : h.wf → AI Try.prog c68 (RetQ Try.prog [.tmp 2] R) [x0, un, un, un, un, un, un, un, un, un, un, un, un, un, un, un] h) : AC Try.prog 68 [x0] h R :=
  AC_of' (rs := [.tmp 2]) Try.func68 (by kernel_rfl) hd68 Try.ntmps68 rfl H

noncomputable def rg71_0 : Array Oper := rawAt Try.f71 0
/-- impl.AllShortest$1 -/
noncomputable def c71 : IC :=
  (.seq
  (.reg [
    ⟨some 3, .assign (.const (.bool false)), none⟩])
  (.seq
  (.raw (.region 1 rg71_0 true))
  (.seq
  (.reg [
    ⟨some 9, .load 30 (.tmp 1), none⟩,
    ⟨some 10, .call { callee := .builtin .len, args := #[.tmp 9], argTypes := #[30] }, none⟩,
    ⟨some 11, .binOp .gtr 3 (.tmp 10) (.const (.int .i64 200)) 3, none⟩,
    ⟨some 3, .assign (.tmp 11), none⟩])
  .ret)))
theorem hd71 : Try.f71.body.map dec = some c71 := by kernel_rfl
theorem e71 {R : AV → AH → Prop} {h : AH} (x0 x1 : AV) (H : h.wf → AI Try.prog c71 (RetQ Try.prog [.tmp 3] R) [x0, x1, un, un, un, un, un, un, un, un, un, un] h) : AC Try.prog 71 [x0, x1] h R :=
  AC_of' (rs := [.tmp 3]) Try.func71 (by kernel_rfl) hd71 Try.ntmps71 rfl H
theorem dz71_0 {h0 : AH} {L : List It} {Q : Exit → List AV → List It → Prop} {a : List AV} {id : Nat} (H : LX Try.prog ⟨[4, 5], []⟩ h0 L L (.c (⟨some 4, .load 30 (.tmp 1), none⟩, .l) <| .c (⟨some 5, .move (.tmp 0), none⟩, .p) <| .c (⟨some 6, .call { callee := .value (.func 72), args := #[.tmp 5], argTypes := #[22] }, none⟩, .e) <| .c (⟨some 7, .buildSlice 30 1 #[(0, .tmp 6)], none⟩, .e) <| .c (⟨some 8, .call { callee := .builtin .append, args := #[.tmp 4, .tmp 7], argTypes := #[30, 30] }, none⟩, .f) <| .c (⟨none, .store 30 (.tmp 1) (.tmp 8), none⟩, .f) <| .n) Q a) : LI Try.prog h0 L (.raw (.region id rg71_0 true)) Q a :=
  LI_draw (.c (0, .l) <| .c (1, .p) <| .c (2, .e) <| .c (3, .e) <| .c (4, .f) <| .c (5, .f) <| .n) [4, 5] (by kernel_rfl) (by kernel_rfl) (by kernel_rfl) H
theorem db71_0 {h0 : AH} {L : List It} {Q : Exit → List AV → List It → Prop} {a : List AV} {id : Nat} (K : List (Nat × List AV)) (hK : ∀ x ∈ K, It.pt x.1 x.2 ∈ L) (H : LX Try.prog ⟨[2, 3, 4, 5], K⟩ h0 L L (.c (⟨some 5, .move (.tmp 0), none⟩, .p) <| .t (.c (⟨some 4, .load 30 (.tmp 1), none⟩, .e) <| .c (⟨some 6, .call { callee := .value (.func 72), args := #[.tmp 5], argTypes := #[22] }, none⟩, .f) <| .c (⟨some 7, .buildSlice 30 1 #[(0, .tmp 6)], none⟩, .f) <| .c (⟨some 8, .call { callee := .builtin .append, args := #[.tmp 4, .tmp 7], argTypes := #[30, 30] }, none⟩, .f) <| .c (⟨none, .store 30 (.tmp 1) (.tmp 8), none⟩, .f) <| .n) (.c (⟨some 6, .call { callee := .value (.func 72), args := #[.tmp 5], argTypes := #[22] }, none⟩, .f) <| .t (.c (⟨some 4, .load 30 (.tmp 1), none⟩, .e) <| .c (⟨some 7, .buildSlice 30 1 #[(0, .tmp 6)], none⟩, .f) <| .c (⟨some 8, .call { callee := .builtin .append, args := #[.tmp 4, .tmp 7], argTypes := #[30, 30] }, none⟩, .f) <| .c (⟨none, .store 30 (.tmp 1) (.tmp 8), none⟩, .f) <| .n) (.c (⟨some 7, .buildSlice 30 1 #[(0, .tmp 6)], none⟩, .f) <| .c (⟨some 4, .load 30 (.tmp 1), none⟩, .e) <| .c (⟨some 8, .call { callee := .builtin .append, args := #[.tmp 4, .tmp 7], argTypes := #[30, 30] }, none⟩, .f) <| .c (⟨none, .store 30 (.tmp 1) (.tmp 8), none⟩, .f) <| .n))) Q a) : LI Try.prog h0 L (.raw (.region id rg71_0 true)) Q a :=
  LI_drawK (.c (1, .p) <| .t (.c (0, .e) <| .c (2, .f) <| .c (3, .f) <| .c (4, .f) <| .c (5, .f) <| .n) (.c (2, .f) <| .t (.c (0, .e) <| .c (3, .f) <| .c (4, .f) <| .c (5, .f) <| .n) (.c (3, .f) <| .c (0, .e) <| .c (4, .f) <| .c (5, .f) <| .n))) [2, 3, 4, 5] K hK (by kernel_rfl) (by kernel_rfl) (by kernel_rfl) H
theorem dr71_0 (m : Nat) {Q : Exit → List AV → AH → Prop} {a : List AV} {h : AH} {id : Nat} (H : AX Try.prog m h [(⟨some 4, .load 30 (.tmp 1), none⟩, true),
  (⟨some 5, .move (.tmp 0), none⟩, true),
  (⟨some 6, .call { callee := .value (.func 72), args := #[.tmp 5], argTypes := #[22] }, none⟩, false),
  (⟨some 7, .buildSlice 30 1 #[(0, .tmp 6)], none⟩, false),
  (⟨some 8, .call { callee := .builtin .append, args := #[.tmp 4, .tmp 7], argTypes := #[30, 30] }, none⟩, false),
  (⟨none, .store 30 (.tmp 1) (.tmp 8), none⟩, false)] (fun a' h' => Q .normal a' h') a h) : AI Try.prog (.raw (.region id rg71_0 true)) Q a h :=
  AI_draw [(0, true), (1, true), (2, false), (3, false), (4, false), (5, false)] m (by kernel_rfl) (by kernel_rfl) (by kernel_rfl) H

/-- impl.AllShortest -/
def c27 : IC :=
  (.seq
  (.reg [
    ⟨some 2, .assign (.const (.slice none 0 0)), none⟩,
    ⟨some 3, .assign (.const (.bool false)), none⟩])
  (.seq
  (.seq
  (.reg [
    ⟨some 5, .move (.tmp 0), none⟩,
    ⟨some 6, .call { callee := .value (.func 59), args := #[.tmp 5], argTypes := #[3] }, none⟩,
    ⟨some 7, .unOp .not 4 (.tmp 6), none⟩])
  (.cond (.tmp 7)
    (.seq
    (.reg [
      ⟨some 2, .assign (.const (.slice none 0 0)), none⟩,
      ⟨some 3, .assign (.const (.bool false)), none⟩])
    .ret)
    .skip))
  (.seq
  (.reg [
    ⟨some 8, .buildSlice 30 0 #[], none⟩,
    ⟨some 4, .alloc 30, none⟩,
    ⟨none, .store 30 (.tmp 4) (.tmp 8), none⟩])
  (.seq
  (.seq
  (.reg [
    ⟨some 9, .move (.tmp 0), none⟩,
    ⟨some 10, .move (.tmp 0), none⟩,
    ⟨some 11, .call { callee := .value (.func 68), args := #[.tmp 10], argTypes := #[3] }, none⟩,
    ⟨some 12, .call { callee := .builtin .len, args := #[.tmp 11], argTypes := #[22] }, none⟩,
    ⟨some 13, .binOp .sub 3 (.tmp 12) (.const (.int .i64 1)) 3, none⟩,
    ⟨some 14, .buildSlice 22 1 #[(0, .const (.int .i64 1))], none⟩,
    ⟨some 15, .makeFunc (.func 71) #[] #[.tmp 4], none⟩,
    ⟨some 16, .call { callee := .value (.func 70), args := #[.tmp 9, .tmp 13, .tmp 14, .tmp 15], argTypes := #[3, 3, 22, 38] }, none⟩])
  (.cond (.tmp 16)
    (.seq
    (.reg [
      ⟨some 2, .assign (.const (.slice none 0 0)), none⟩,
      ⟨some 3, .assign (.const (.bool false)), none⟩])
    .ret)
    .skip))
  (.seq
  (.reg [
    ⟨some 17, .load 30 (.tmp 4), none⟩,
    ⟨some 2, .assign (.tmp 17), none⟩,
    ⟨some 3, .assign (.const (.bool true)), none⟩])
  .ret)))))
theorem hd27 : Try.f27.body.map dec = some c27 := by kernel_rfl
theorem e27 {R : AV → AH → Prop} {h : AH} (x0 : AV) (H : h.wf → AI Try.prog c27 (RetQ Try.prog [.tmp 2, .tmp 3] R) [x0, un, un, un, un, un, un, un, un, un, un, un, un, un, un, un, un, un] h) : AC Try.prog 27 [x0] h R :=
  AC_of' (rs := [.tmp 2, .tmp 3]) Try.func27 (by kernel_rfl) hd27 Try.ntmps27 rfl H

noncomputable def rg17_0 : Array Oper := rawAt Try.f17 0
/-- laws.eqIntS -/
noncomputable def c17 : IC :=
  (.seq
  (.reg [
    ⟨some 4, .assign (.const (.bool false)), none⟩])
  (.seq
  (.seq
  (.reg [
    ⟨some 6, .move (.tmp 0), none⟩,
    ⟨some 7, .call { callee := .builtin .len, args := #[.tmp 6], argTypes := #[22] }, none⟩,
    ⟨some 8, .move (.tmp 1), none⟩,
    ⟨some 9, .call { callee := .builtin .len, args := #[.tmp 8], argTypes := #[22] }, none⟩,
    ⟨some 10, .binOp .neq 3 (.tmp 7) (.tmp 9) 3, none⟩])
  (.cond (.tmp 10)
    (.seq
    (.reg [
      ⟨some 4, .assign (.const (.bool false)), none⟩])
    .ret)
    .skip))
  (.seq
  (.seq
  (.reg [
    ⟨some 5, .assign (.const (.int .i64 0)), none⟩])
  (.block 0
  (.loop
    (.seq
    (.seq
    (.reg [
      ⟨some 11, .move (.tmp 5), none⟩,
      ⟨some 12, .move (.tmp 0), none⟩,
      ⟨some 13, .call { callee := .builtin .len, args := #[.tmp 12], argTypes := #[22] }, none⟩,
      ⟨some 14, .binOp .lss 3 (.tmp 11) (.tmp 13) 3, none⟩])
    (.cond (.tmp 14)
      .skip
      (.exit 0)))
    (.seq
    (.block 1
    (.seq
    (.raw (.region 6 rg17_0 true))
    (.cond (.tmp 25)
      (.seq
      (.reg [
        ⟨some 4, .assign (.const (.bool false)), none⟩])
      .ret)
      .skip)))
    (.reg [
      ⟨some 15, .move (.tmp 5), none⟩,
      ⟨some 16, .binOp .add 3 (.tmp 15) (.const (.int .i64 1)) 3, none⟩,
      ⟨some 5, .assign (.tmp 16), none⟩]))))))
  (.seq
  (.reg [
    ⟨some 4, .assign (.const (.bool true)), none⟩])
  .ret))))
theorem hd17 : Try.f17.body.map dec = some c17 := by kernel_rfl
theorem e17 {R : AV → AH → Prop} {h : AH} (x0 x1 : AV) (H : h.wf → AI Try.prog c17 (RetQ Try.prog [.tmp 4] R) [x0, x1, un, un, un, un, un, un, un, un, un, un, un, un, un, un, un, un, un, un, un, un, un, un, un, un] h) : AC Try.prog 17 [x0, x1] h R :=
  AC_of' (rs := [.tmp 4]) Try.func17 (by kernel_rfl) hd17 Try.ntmps17 rfl H
theorem dz17_0 {h0 : AH} {L : List It} {Q : Exit → List AV → List It → Prop} {a : List AV} {id : Nat} (H : LX Try.prog ⟨[], []⟩ h0 L L (.c (⟨some 17, .move (.tmp 0), none⟩, .p) <| .c (⟨some 18, .move (.tmp 5), none⟩, .p) <| .c (⟨some 19, .indexAddr 22 (.tmp 17) (.tmp 18), none⟩, .p) <| .c (⟨some 20, .load 3 (.tmp 19), none⟩, .l) <| .c (⟨some 21, .move (.tmp 1), none⟩, .p) <| .c (⟨some 22, .move (.tmp 5), none⟩, .p) <| .c (⟨some 23, .indexAddr 22 (.tmp 21) (.tmp 22), none⟩, .p) <| .c (⟨some 24, .load 3 (.tmp 23), none⟩, .l) <| .c (⟨some 25, .binOp .neq 3 (.tmp 20) (.tmp 24) 3, none⟩, .p) <| .n) Q a) : LI Try.prog h0 L (.raw (.region id rg17_0 true)) Q a :=
  LI_draw (.c (0, .p) <| .c (1, .p) <| .c (2, .p) <| .c (3, .l) <| .c (4, .p) <| .c (5, .p) <| .c (6, .p) <| .c (7, .l) <| .c (8, .p) <| .n) [] (by kernel_rfl) (by kernel_rfl) (by kernel_rfl) H
theorem dr17_0 (m : Nat) {Q : Exit → List AV → AH → Prop} {a : List AV} {h : AH} {id : Nat} (H : AX Try.prog m h [(⟨some 17, .move (.tmp 0), none⟩, true),
  (⟨some 18, .move (.tmp 5), none⟩, true),
  (⟨some 19, .indexAddr 22 (.tmp 17) (.tmp 18), none⟩, true),
  (⟨some 20, .load 3 (.tmp 19), none⟩, true),
  (⟨some 21, .move (.tmp 1), none⟩, true),
  (⟨some 22, .move (.tmp 5), none⟩, true),
  (⟨some 23, .indexAddr 22 (.tmp 21) (.tmp 22), none⟩, true),
  (⟨some 24, .load 3 (.tmp 23), none⟩, true),
  (⟨some 25, .binOp .neq 3 (.tmp 20) (.tmp 24) 3, none⟩, true)] (fun a' h' => Q .normal a' h') a h) : AI Try.prog (.raw (.region id rg17_0 true)) Q a h :=
  AI_draw [(0, true), (1, true), (2, true), (3, true), (4, true), (5, true), (6, true), (7, true), (8, true)] m (by kernel_rfl) (by kernel_rfl) (by kernel_rfl) H

noncomputable def rg28_0 : Array Oper := rawAt Try.f28 0
/-- laws.eqIntSS -/
noncomputable def c28 : IC :=
  (.seq
  (.reg [
    ⟨some 4, .assign (.const (.bool false)), none⟩])
  (.seq
  (.seq
  (.reg [
    ⟨some 6, .move (.tmp 0), none⟩,
    ⟨some 7, .call { callee := .builtin .len, args := #[.tmp 6], argTypes := #[30] }, none⟩,
    ⟨some 8, .move (.tmp 1), none⟩,
    ⟨some 9, .call { callee := .builtin .len, args := #[.tmp 8], argTypes := #[30] }, none⟩,
    ⟨some 10, .binOp .neq 3 (.tmp 7) (.tmp 9) 3, none⟩])
  (.cond (.tmp 10)
    (.seq
    (.reg [
      ⟨some 4, .assign (.const (.bool false)), none⟩])
    .ret)
    .skip))
  (.seq
  (.seq
  (.reg [
    ⟨some 5, .assign (.const (.int .i64 0)), none⟩])
  (.block 0
  (.loop
    (.seq
    (.seq
    (.reg [
      ⟨some 11, .move (.tmp 5), none⟩,
      ⟨some 12, .move (.tmp 0), none⟩,
      ⟨some 13, .call { callee := .builtin .len, args := #[.tmp 12], argTypes := #[30] }, none⟩,
      ⟨some 14, .binOp .lss 3 (.tmp 11) (.tmp 13) 3, none⟩])
    (.cond (.tmp 14)
      .skip
      (.exit 0)))
    (.seq
    (.block 1
    (.seq
    (.raw (.region 6 rg28_0 true))
    (.cond (.tmp 26)
      (.seq
      (.reg [
        ⟨some 4, .assign (.const (.bool false)), none⟩])
      .ret)
      .skip)))
    (.reg [
      ⟨some 15, .move (.tmp 5), none⟩,
      ⟨some 16, .binOp .add 3 (.tmp 15) (.const (.int .i64 1)) 3, none⟩,
      ⟨some 5, .assign (.tmp 16), none⟩]))))))
  (.seq
  (.reg [
    ⟨some 4, .assign (.const (.bool true)), none⟩])
  .ret))))
theorem hd28 : Try.f28.body.map dec = some c28 := by kernel_rfl
theorem e28 {R : AV → AH → Prop} {h : AH} (x0 x1 : AV) (H : h.wf → AI Try.prog c28 (RetQ Try.prog [.tmp 4] R) [x0, x1, un, un, un, un, un, un, un, un, un, un, un, un, un, un, un, un, un, un, un, un, un, un, un, un, un] h) : AC Try.prog 28 [x0, x1] h R :=
  AC_of' (rs := [.tmp 4]) Try.func28 (by kernel_rfl) hd28 Try.ntmps28 rfl H
theorem dz28_0 {h0 : AH} {L : List It} {Q : Exit → List AV → List It → Prop} {a : List AV} {id : Nat} (H : LX Try.prog ⟨[], []⟩ h0 L L (.c (⟨some 17, .move (.tmp 0), none⟩, .p) <| .c (⟨some 18, .move (.tmp 5), none⟩, .p) <| .c (⟨some 19, .indexAddr 30 (.tmp 17) (.tmp 18), none⟩, .p) <| .c (⟨some 20, .load 22 (.tmp 19), none⟩, .l) <| .c (⟨some 21, .move (.tmp 1), none⟩, .p) <| .c (⟨some 22, .move (.tmp 5), none⟩, .p) <| .c (⟨some 23, .indexAddr 30 (.tmp 21) (.tmp 22), none⟩, .p) <| .c (⟨some 24, .load 22 (.tmp 23), none⟩, .l) <| .c (⟨some 25, .call { callee := .value (.func 17), args := #[.tmp 20, .tmp 24], argTypes := #[22, 22] }, none⟩, .e) <| .c (⟨some 26, .unOp .not 4 (.tmp 25), none⟩, .p) <| .n) Q a) : LI Try.prog h0 L (.raw (.region id rg28_0 true)) Q a :=
  LI_draw (.c (0, .p) <| .c (1, .p) <| .c (2, .p) <| .c (3, .l) <| .c (4, .p) <| .c (5, .p) <| .c (6, .p) <| .c (7, .l) <| .c (8, .e) <| .c (9, .p) <| .n) [] (by kernel_rfl) (by kernel_rfl) (by kernel_rfl) H
theorem dy28_0 {h0 : AH} {L : List It} {Q : Exit → List AV → List It → Prop} {a : List AV} {id : Nat} (H : LX Try.prog ⟨[8], []⟩ h0 L L (.c (⟨some 17, .move (.tmp 0), none⟩, .p) <| .c (⟨some 18, .move (.tmp 5), none⟩, .p) <| .c (⟨some 19, .indexAddr 30 (.tmp 17) (.tmp 18), none⟩, .p) <| .c (⟨some 20, .load 22 (.tmp 19), none⟩, .l) <| .c (⟨some 21, .move (.tmp 1), none⟩, .p) <| .c (⟨some 22, .move (.tmp 5), none⟩, .p) <| .c (⟨some 23, .indexAddr 30 (.tmp 21) (.tmp 22), none⟩, .p) <| .c (⟨some 24, .load 22 (.tmp 23), none⟩, .l) <| .c (⟨some 25, .call { callee := .value (.func 17), args := #[.tmp 20, .tmp 24], argTypes := #[22, 22] }, none⟩, .f) <| .c (⟨some 26, .unOp .not 4 (.tmp 25), none⟩, .p) <| .n) Q a) : LI Try.prog h0 L (.raw (.region id rg28_0 true)) Q a :=
  LI_draw (.c (0, .p) <| .c (1, .p) <| .c (2, .p) <| .c (3, .l) <| .c (4, .p) <| .c (5, .p) <| .c (6, .p) <| .c (7, .l) <| .c (8, .f) <| .c (9, .p) <| .n) [8] (by kernel_rfl) (by kernel_rfl) (by kernel_rfl) H
theorem dr28_0 (m : Nat) {Q : Exit → List AV → AH → Prop} {a : List AV} {h : AH} {id : Nat} (H : AX Try.prog m h [(⟨some 17, .move (.tmp 0), none⟩, true),
  (⟨some 18, .move (.tmp 5), none⟩, true),
  (⟨some 19, .indexAddr 30 (.tmp 17) (.tmp 18), none⟩, true),
  (⟨some 20, .load 22 (.tmp 19), none⟩, true),
  (⟨some 21, .move (.tmp 1), none⟩, true),
  (⟨some 22, .move (.tmp 5), none⟩, true),
  (⟨some 23, .indexAddr 30 (.tmp 21) (.tmp 22), none⟩, true),
  (⟨some 24, .load 22 (.tmp 23), none⟩, true),
  (⟨some 25, .call { callee := .value (.func 17), args := #[.tmp 20, .tmp 24], argTypes := #[22, 22] }, none⟩, false),
  (⟨some 26, .unOp .not 4 (.tmp 25), none⟩, true)] (fun a' h' => Q .normal a' h') a h) : AI Try.prog (.raw (.region id rg28_0 true)) Q a h :=
  AI_draw [(0, true), (1, true), (2, true), (3, true), (4, true), (5, true), (6, true), (7, true), (8, false), (9, true)] m (by kernel_rfl) (by kernel_rfl) (by kernel_rfl) H

/-- laws.markIntS -/
def c18 : IC :=
  (.seq
  (.reg [
    ⟨some 4, .assign (.const (.int .i64 0)), none⟩])
  (.seq
  (.seq
  (.reg [
    ⟨some 5, .assign (.const (.int .i64 0)), none⟩])
  (.block 0
  (.loop
    (.seq
    (.seq
    (.reg [
      ⟨some 6, .move (.tmp 5), none⟩,
      ⟨some 7, .move (.tmp 0), none⟩,
      ⟨some 8, .call { callee := .builtin .len, args := #[.tmp 7], argTypes := #[22] }, none⟩,
      ⟨some 9, .binOp .lss 3 (.tmp 6) (.tmp 8) 3, none⟩])
    (.cond (.tmp 9)
      .skip
      (.exit 0)))
    (.seq
    (.block 1
    (.seq
    (.reg [
      ⟨some 12, .move (.tmp 0), none⟩,
      ⟨some 13, .move (.tmp 5), none⟩,
      ⟨some 14, .move (.tmp 1), none⟩,
      ⟨some 15, .indexAddr 22 (.tmp 12) (.tmp 13), none⟩,
      ⟨none, .store 3 (.tmp 15) (.tmp 14), none⟩])
    (.reg [
      ⟨some 16, .move (.tmp 1), none⟩,
      ⟨some 17, .binOp .add 3 (.tmp 16) (.const (.int .i64 1)) 3, none⟩,
      ⟨some 1, .assign (.tmp 17), none⟩])))
    (.reg [
      ⟨some 10, .move (.tmp 5), none⟩,
      ⟨some 11, .binOp .add 3 (.tmp 10) (.const (.int .i64 1)) 3, none⟩,
      ⟨some 5, .assign (.tmp 11), none⟩]))))))
  (.seq
  (.reg [
    ⟨some 18, .move (.tmp 1), none⟩,
    ⟨some 4, .assign (.tmp 18), none⟩])
  .ret)))
theorem hd18 : Try.f18.body.map dec = some c18 := by kernel_rfl
theorem e18 {R : AV → AH → Prop} {h : AH} (x0 x1 : AV) (H : h.wf → AI Try.prog c18 (RetQ Try.prog [.tmp 4] R) [x0, x1, un, un, un, un, un, un, un, un, un, un, un, un, un, un, un, un, un] h) : AC Try.prog 18 [x0, x1] h R :=
  AC_of' (rs := [.tmp 4]) Try.func18 (by kernel_rfl) hd18 Try.ntmps18 rfl H

/-- laws.markIntSS -/
def c29 : IC :=
  (.seq
  (.reg [
    ⟨some 4, .assign (.const (.int .i64 0)), none⟩])
  (.seq
  (.seq
  (.reg [
    ⟨some 5, .assign (.const (.int .i64 0)), none⟩])
  (.block 0
  (.loop
    (.seq
    (.seq
    (.reg [
      ⟨some 6, .move (.tmp 5), none⟩,
      ⟨some 7, .move (.tmp 0), none⟩,
      ⟨some 8, .call { callee := .builtin .len, args := #[.tmp 7], argTypes := #[30] }, none⟩,
      ⟨some 9, .binOp .lss 3 (.tmp 6) (.tmp 8) 3, none⟩])
    (.cond (.tmp 9)
      .skip
      (.exit 0)))
    (.seq
    (.block 1
    (.reg [
      ⟨some 12, .move (.tmp 0), none⟩,
      ⟨some 13, .move (.tmp 5), none⟩,
      ⟨some 14, .indexAddr 30 (.tmp 12) (.tmp 13), none⟩,
      ⟨some 15, .load 22 (.tmp 14), none⟩,
      ⟨some 16, .move (.tmp 1), none⟩,
      ⟨some 17, .call { callee := .value (.func 18), args := #[.tmp 15, .tmp 16], argTypes := #[22, 3] }, none⟩,
      ⟨some 1, .assign (.tmp 17), none⟩]))
    (.reg [
      ⟨some 10, .move (.tmp 5), none⟩,
      ⟨some 11, .binOp .add 3 (.tmp 10) (.const (.int .i64 1)) 3, none⟩,
      ⟨some 5, .assign (.tmp 11), none⟩]))))))
  (.seq
  (.reg [
    ⟨some 18, .move (.tmp 1), none⟩,
    ⟨some 4, .assign (.tmp 18), none⟩])
  .ret)))
theorem hd29 : Try.f29.body.map dec = some c29 := by kernel_rfl
theorem e29 {R : AV → AH → Prop} {h : AH} (x0 x1 : AV) (H : h.wf → AI Try.prog c29 (RetQ Try.prog [.tmp 4] R) [x0, x1, un, un, un, un, un, un, un, un, un, un, un, un, un, un, un, un, un] h) : AC Try.prog 29 [x0, x1] h R :=
  AC_of' (rs := [.tmp 4]) Try.func29 (by kernel_rfl) hd29 Try.ntmps29 rfl H

/-- laws.heldIntS -/
def c19 : IC :=
  (.seq
  (.reg [
    ⟨some 4, .assign (.const (.int .i64 0)), none⟩])
  (.seq
  (.seq
  (.reg [
    ⟨some 5, .assign (.const (.int .i64 0)), none⟩])
  (.block 0
  (.loop
    (.seq
    (.seq
    (.reg [
      ⟨some 6, .move (.tmp 5), none⟩,
      ⟨some 7, .move (.tmp 0), none⟩,
      ⟨some 8, .call { callee := .builtin .len, args := #[.tmp 7], argTypes := #[22] }, none⟩,
      ⟨some 9, .binOp .lss 3 (.tmp 6) (.tmp 8) 3, none⟩])
    (.cond (.tmp 9)
      .skip
      (.exit 0)))
    (.seq
    (.block 1
    (.seq
    (.seq
    (.reg [
      ⟨some 12, .move (.tmp 0), none⟩,
      ⟨some 13, .move (.tmp 5), none⟩,
      ⟨some 14, .indexAddr 22 (.tmp 12) (.tmp 13), none⟩,
      ⟨some 15, .load 3 (.tmp 14), none⟩,
      ⟨some 16, .move (.tmp 1), none⟩,
      ⟨some 17, .binOp .neq 3 (.tmp 15) (.tmp 16) 3, none⟩])
    (.cond (.tmp 17)
      (.seq
      (.reg [
        ⟨some 4, .assign (.const (.int .i64 (-1))), none⟩])
      .ret)
      .skip))
    (.reg [
      ⟨some 18, .move (.tmp 1), none⟩,
      ⟨some 19, .binOp .add 3 (.tmp 18) (.const (.int .i64 1)) 3, none⟩,
      ⟨some 1, .assign (.tmp 19), none⟩])))
    (.reg [
      ⟨some 10, .move (.tmp 5), none⟩,
      ⟨some 11, .binOp .add 3 (.tmp 10) (.const (.int .i64 1)) 3, none⟩,
      ⟨some 5, .assign (.tmp 11), none⟩]))))))
  (.seq
  (.reg [
    ⟨some 20, .move (.tmp 1), none⟩,
    ⟨some 4, .assign (.tmp 20), none⟩])
  .ret)))
theorem hd19 : Try.f19.body.map dec = some c19 := by kernel_rfl
theorem e19 {R : AV → AH → Prop} {h : AH} (x0 x1 : AV) (H : h.wf → AI Try.prog c19 (RetQ Try.prog [.tmp 4] R) [x0, x1, un, un, un, un, un, un, un, un, un, un, un, un, un, un, un, un, un, un, un] h) : AC Try.prog 19 [x0, x1] h R :=
  AC_of' (rs := [.tmp 4]) Try.func19 (by kernel_rfl) hd19 Try.ntmps19 rfl H

/-- laws.heldIntSS -/
def c30 : IC :=
  (.seq
  (.reg [
    ⟨some 4, .assign (.const (.int .i64 0)), none⟩])
  (.seq
  (.seq
  (.reg [
    ⟨some 5, .assign (.const (.int .i64 0)), none⟩])
  (.block 0
  (.loop
    (.seq
    (.seq
    (.reg [
      ⟨some 6, .move (.tmp 5), none⟩,
      ⟨some 7, .move (.tmp 0), none⟩,
      ⟨some 8, .call { callee := .builtin .len, args := #[.tmp 7], argTypes := #[30] }, none⟩,
      ⟨some 9, .binOp .lss 3 (.tmp 6) (.tmp 8) 3, none⟩])
    (.cond (.tmp 9)
      .skip
      (.exit 0)))
    (.seq
    (.block 1
    (.seq
    (.reg [
      ⟨some 12, .move (.tmp 0), none⟩,
      ⟨some 13, .move (.tmp 5), none⟩,
      ⟨some 14, .indexAddr 30 (.tmp 12) (.tmp 13), none⟩,
      ⟨some 15, .load 22 (.tmp 14), none⟩,
      ⟨some 16, .move (.tmp 1), none⟩,
      ⟨some 17, .call { callee := .value (.func 19), args := #[.tmp 15, .tmp 16], argTypes := #[22, 3] }, none⟩,
      ⟨some 1, .assign (.tmp 17), none⟩])
    (.seq
    (.reg [
      ⟨some 18, .move (.tmp 1), none⟩,
      ⟨some 19, .binOp .lss 3 (.tmp 18) (.const (.int .i64 0)) 3, none⟩])
    (.cond (.tmp 19)
      (.seq
      (.reg [
        ⟨some 4, .assign (.const (.int .i64 (-1))), none⟩])
      .ret)
      .skip))))
    (.reg [
      ⟨some 10, .move (.tmp 5), none⟩,
      ⟨some 11, .binOp .add 3 (.tmp 10) (.const (.int .i64 1)) 3, none⟩,
      ⟨some 5, .assign (.tmp 11), none⟩]))))))
  (.seq
  (.reg [
    ⟨some 20, .move (.tmp 1), none⟩,
    ⟨some 4, .assign (.tmp 20), none⟩])
  .ret)))
theorem hd30 : Try.f30.body.map dec = some c30 := by kernel_rfl
theorem e30 {R : AV → AH → Prop} {h : AH} (x0 x1 : AV) (H : h.wf → AI Try.prog c30 (RetQ Try.prog [.tmp 4] R) [x0, x1, un, un, un, un, un, un, un, un, un, un, un, un, un, un, un, un, un, un, un] h) : AC Try.prog 30 [x0, x1] h R :=
  AC_of' (rs := [.tmp 4]) Try.func30 (by kernel_rfl) hd30 Try.ntmps30 rfl H

/-- laws.FnExactAllShortest -/
def c7 : IC :=
  (.seq
  (.reg [
    ⟨some 2, .assign (.const (.bool false)), none⟩])
  (.seq
  (.reg [
    ⟨some 12, .move (.tmp 0), none⟩,
    ⟨some 13, .call { callee := .value (.func 26), args := #[.tmp 12], argTypes := #[3] }, none⟩,
    ⟨some 11, .move (.tmp 13), none⟩,
    ⟨some 14, .extract (.tmp 11) 0, none⟩,
    ⟨some 15, .extract (.tmp 11) 1, none⟩,
    ⟨some 3, .assign (.tmp 14), none⟩,
    ⟨some 4, .assign (.tmp 15), none⟩])
  (.seq
  (.reg [
    ⟨some 17, .move (.tmp 0), none⟩,
    ⟨some 18, .call { callee := .value (.func 27), args := #[.tmp 17], argTypes := #[3] }, none⟩,
    ⟨some 16, .move (.tmp 18), none⟩,
    ⟨some 19, .extract (.tmp 16) 0, none⟩,
    ⟨some 20, .extract (.tmp 16) 1, none⟩,
    ⟨some 5, .assign (.tmp 19), none⟩,
    ⟨some 6, .assign (.tmp 20), none⟩])
  (.seq
  (.seq
  (.reg [
    ⟨some 21, .move (.tmp 5), none⟩,
    ⟨some 22, .move (.tmp 3), none⟩,
    ⟨some 23, .call { callee := .value (.func 28), args := #[.tmp 21, .tmp 22], argTypes := #[30, 30] }, none⟩,
    ⟨some 24, .unOp .not 4 (.tmp 23), none⟩,
    ⟨some 25, .move (.tmp 24), none⟩,
    ⟨some 26, .move (.tmp 6), some (25, false)⟩,
    ⟨some 27, .move (.tmp 4), some (25, false)⟩,
    ⟨some 28, .binOp .neq 4 (.tmp 26) (.tmp 27) 4, some (25, false)⟩,
    ⟨some 29, .pick (.tmp 25) (.const (.bool true)) (.tmp 28), none⟩])
  (.cond (.tmp 29)
    (.seq
    (.reg [
      ⟨some 2, .assign (.const (.bool false)), none⟩])
    .ret)
    .skip))
  (.seq
  (.reg [
    ⟨some 7, .assign (.const (.int .i64 1)), none⟩])
  (.seq
  (.reg [
    ⟨some 30, .move (.tmp 5), none⟩,
    ⟨some 31, .move (.tmp 7), none⟩,
    ⟨some 32, .call { callee := .value (.func 29), args := #[.tmp 30, .tmp 31], argTypes := #[30, 3] }, none⟩,
    ⟨some 7, .assign (.tmp 32), none⟩])
  (.seq
  (.reg [
    ⟨some 8, .assign (.const (.int .i64 1)), none⟩])
  (.seq
  (.reg [
    ⟨some 33, .move (.tmp 5), none⟩,
    ⟨some 34, .move (.tmp 8), none⟩,
    ⟨some 35, .call { callee := .value (.func 30), args := #[.tmp 33, .tmp 34], argTypes := #[30, 3] }, none⟩,
    ⟨some 8, .assign (.tmp 35), none⟩])
  (.seq
  (.seq
  (.reg [
    ⟨some 36, .move (.tmp 8), none⟩,
    ⟨some 37, .binOp .lss 3 (.tmp 36) (.const (.int .i64 0)) 3, none⟩])
  (.cond (.tmp 37)
    (.seq
    (.reg [
      ⟨some 2, .assign (.const (.bool false)), none⟩])
    .ret)
    .skip))
  (.seq
  (.seq
  (.reg [
    ⟨some 38, .move (.tmp 8), none⟩,
    ⟨some 39, .move (.tmp 7), none⟩,
    ⟨some 40, .binOp .neq 3 (.tmp 38) (.tmp 39) 3, none⟩])
  (.cond (.tmp 40)
    (.seq
    (.reg [
      ⟨some 2, .assign (.const (.bool false)), none⟩])
    .ret)
    .skip))
  (.seq
  (.reg [
    ⟨some 42, .move (.tmp 0), none⟩,
    ⟨some 43, .call { callee := .value (.func 27), args := #[.tmp 42], argTypes := #[3] }, none⟩,
    ⟨some 41, .move (.tmp 43), none⟩,
    ⟨some 44, .extract (.tmp 41) 0, none⟩,
    ⟨some 45, .extract (.tmp 41) 1, none⟩,
    ⟨some 9, .assign (.tmp 44), none⟩,
    ⟨some 10, .assign (.tmp 45), none⟩])
  (.seq
  (.seq
  (.reg [
    ⟨some 46, .move (.tmp 9), none⟩,
    ⟨some 47, .move (.tmp 3), none⟩,
    ⟨some 48, .call { callee := .value (.func 28), args := #[.tmp 46, .tmp 47], argTypes := #[30, 30] }, none⟩,
    ⟨some 49, .unOp .not 4 (.tmp 48), none⟩,
    ⟨some 50, .move (.tmp 49), none⟩,
    ⟨some 51, .move (.tmp 10), some (50, false)⟩,
    ⟨some 52, .move (.tmp 4), some (50, false)⟩,
    ⟨some 53, .binOp .neq 4 (.tmp 51) (.tmp 52) 4, some (50, false)⟩,
    ⟨some 54, .pick (.tmp 50) (.const (.bool true)) (.tmp 53), none⟩])
  (.cond (.tmp 54)
    (.seq
    (.reg [
      ⟨some 2, .assign (.const (.bool false)), none⟩])
    .ret)
    .skip))
  (.seq
  (.reg [
    ⟨some 8, .assign (.const (.int .i64 1)), none⟩])
  (.seq
  (.reg [
    ⟨some 55, .move (.tmp 5), none⟩,
    ⟨some 56, .move (.tmp 8), none⟩,
    ⟨some 57, .call { callee := .value (.func 30), args := #[.tmp 55, .tmp 56], argTypes := #[30, 3] }, none⟩,
    ⟨some 8, .assign (.tmp 57), none⟩])
  (.seq
  (.seq
  (.reg [
    ⟨some 58, .move (.tmp 8), none⟩,
    ⟨some 59, .binOp .lss 3 (.tmp 58) (.const (.int .i64 0)) 3, none⟩])
  (.cond (.tmp 59)
    (.seq
    (.reg [
      ⟨some 2, .assign (.const (.bool false)), none⟩])
    .ret)
    .skip))
  (.seq
  (.seq
  (.reg [
    ⟨some 60, .move (.tmp 8), none⟩,
    ⟨some 61, .move (.tmp 7), none⟩,
    ⟨some 62, .binOp .neq 3 (.tmp 60) (.tmp 61) 3, none⟩])
  (.cond (.tmp 62)
    (.seq
    (.reg [
      ⟨some 2, .assign (.const (.bool false)), none⟩])
    .ret)
    .skip))
  (.seq
  (.reg [
    ⟨some 2, .assign (.const (.bool true)), none⟩])
  .ret)))))))))))))))))
theorem hd7 : Try.f7.body.map dec = some c7 := by kernel_rfl
theorem e7 {R : AV → AH → Prop} {h : AH} (x0 : AV) (H : h.wf → AI Try.prog c7 (RetQ Try.prog [.tmp 2] R) [x0, un, un, un, un, un, un, un, un, un, un, un, un, un, un, un, un, un, un, un, un, un, un, un, un, un, un, un, un, un, un, un, un, un, un, un, un, un, un, un, un, un, un, un, un, un, un, un, un, un, un, un, un, un, un, un, un, un, un, un, un, un, un] h) : AC Try.prog 7 [x0] h R :=
  AC_of' (rs := [.tmp 2]) Try.func7 (by kernel_rfl) hd7 Try.ntmps7 rfl H

end Go.Proofs.Ytlgjakoeogpjlaa
