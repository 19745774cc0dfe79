/- The short forms of the functions' code, and facts on types. -/
import Derived.Test.YtfgealbhigkddaaProg
import Derived.Test.YtfgealbhigkddaaB5
namespace Go.Proofs.Ytfgealbhigkddaa
open Go.AL
set_option linter.unusedVariables false
theorem sz3 : szT Try.prog 3 = some 1 := by kernel_rfl
theorem by3 : byT Try.prog 3 = some 8 := by kernel_rfl
theorem ag3 : aggT Try.prog 3 = some false := by kernel_rfl
theorem ze3 : zeroA Try.prog 3 = some (.i .i64 0) := by kernel_rfl
theorem sz4 : szT Try.prog 4 = some 1 := by kernel_rfl
theorem by4 : byT Try.prog 4 = some 1 := by kernel_rfl
theorem ag4 : aggT Try.prog 4 = some false := by kernel_rfl
theorem ze4 : zeroA Try.prog 4 = some (.b false) := by kernel_rfl
theorem sz25 : szT Try.prog 25 = some 1 := by kernel_rfl
theorem by25 : byT Try.prog 25 = some 24 := by kernel_rfl
theorem ag25 : aggT Try.prog 25 = some false := by kernel_rfl
theorem ze25 : zeroA Try.prog 25 = some .ns := by kernel_rfl
theorem sz41 : szT Try.prog 41 = some 1 := by kernel_rfl
theorem by41 : byT Try.prog 41 = some 8 := by kernel_rfl
theorem ag41 : aggT Try.prog 41 = some false := by kernel_rfl
theorem ze41 : zeroA Try.prog 41 = some .nf := by kernel_rfl
theorem sz65 : szT Try.prog 65 = some 1 := by kernel_rfl
theorem by65 : byT Try.prog 65 = some 8 := by kernel_rfl
theorem ag65 : aggT Try.prog 65 = some false := by kernel_rfl
theorem ze65 : zeroA Try.prog 65 = some .nf := by kernel_rfl

/-- spec.l1In -/
def c42 : IC :=
  (.seq
  (.reg [
    ⟨some 6, .assign (.const (.bool false)), none⟩])
  (.seq
  (.reg [
    ⟨some 7, .move (.tmp 0), none⟩,
    ⟨some 8, .move (.tmp 1), none⟩,
    ⟨some 9, .binOp .geq 3 (.tmp 7) (.tmp 8) 3, none⟩,
    ⟨some 10, .move (.tmp 9), none⟩,
    ⟨some 11, .move (.tmp 0), some (10, true)⟩,
    ⟨some 12, .move (.tmp 2), some (10, true)⟩,
    ⟨some 13, .binOp .leq 3 (.tmp 11) (.tmp 12) 3, some (10, true)⟩,
    ⟨some 14, .pick (.tmp 10) (.tmp 13) (.const (.bool false)), none⟩,
    ⟨some 6, .assign (.tmp 14), none⟩])
  .ret))
theorem hd42 : Try.f42.body.map dec = some c42 := by kernel_rfl
theorem e42 {R : AV → AH → Prop} {h : AH} (x0 x1 x2 : AV) (H : h.wf → AI Try.prog c42 (RetQ Try.prog [.tmp 6] R) [x0, x1, x2, un, un, un, un, un, un, un, un, un, un, un, un] h) : AC Try.prog 42 [x0, x1, x2] h R :=
  AC_of' (rs := [.tmp 6]) Try.func42 (by kernel_rfl) hd42 Try.ntmps42 rfl H

/-- spec.moModulus -/
def c41 : IC :=
  (.seq
  (.reg [
    ⟨some 2, .assign (.const (.bool false)), none⟩])
  (.seq
  (.reg [
    ⟨some 3, .move (.tmp 0), none⟩,
    ⟨some 4, .call { callee := .value (.func 42), args := #[.tmp 3, .const (.int .i64 2), .const (.int .i64 10000)], argTypes := #[3, 3, 3] }, none⟩,
    ⟨some 2, .assign (.tmp 4), none⟩])
  .ret))
theorem hd41 : Try.f41.body.map dec = some c41 := by kernel_rfl
theorem e41 {R : AV → AH → Prop} {h : AH} (x0 : AV) (H : h.wf → AI Try.prog c41 (RetQ Try.prog [.tmp 2] R) [x0, un, un, un, un] h) : AC Try.prog 41 [x0] h R :=
  AC_of' (rs := [.tmp 2]) Try.func41 (by kernel_rfl) hd41 Try.ntmps41 rfl H

/-- spec.l1All -/
def c44 : IC :=
  (.seq
  (.reg [
    ⟨some 6, .assign (.const (.bool false)), none⟩])
  (.seq
  (.seq
  (.reg [
    ⟨some 9, .move (.tmp 0), none⟩,
    ⟨some 10, .call { callee := .builtin .len, args := #[.tmp 9], argTypes := #[25] }, none⟩,
    ⟨some 11, .move (.const (.int .i64 0)), none⟩])
  (.block 0
  (.loop
    (.seq
    (.reg [
      ⟨some 12, .binOp .lss 3 (.tmp 11) (.tmp 10) 3, none⟩])
    (.seq
    (.cond (.tmp 12)
      .skip
      (.exit 0))
    (.seq
    (.block 1
    (.seq
    (.reg [
      ⟨some 13, .indexAddr 25 (.tmp 9) (.tmp 11), none⟩,
      ⟨some 14, .load 3 (.tmp 13), none⟩,
      ⟨some 8, .assign (.tmp 14), none⟩])
    (.seq
    (.reg [
      ⟨some 15, .move (.tmp 8), none⟩,
      ⟨some 16, .move (.tmp 1), none⟩,
      ⟨some 17, .move (.tmp 2), none⟩,
      ⟨some 18, .call { callee := .value (.func 42), args := #[.tmp 15, .tmp 16, .tmp 17], argTypes := #[3, 3, 3] }, none⟩,
      ⟨some 19, .unOp .not 4 (.tmp 18), none⟩])
    (.cond (.tmp 19)
      (.seq
      (.reg [
        ⟨some 6, .assign (.const (.bool false)), none⟩])
      .ret)
      .skip))))
    (.reg [
      ⟨some 20, .binOp .add 3 (.tmp 11) (.const (.int .i64 1)) 3, none⟩,
      ⟨some 11, .move (.tmp 20), none⟩])))))))
  (.seq
  (.reg [
    ⟨some 6, .assign (.const (.bool true)), none⟩])
  .ret)))
theorem hd44 : Try.f44.body.map dec = some c44 := by kernel_rfl
theorem e44 {R : AV → AH → Prop} {h : AH} (x0 x1 x2 : AV) (H : h.wf → AI Try.prog c44 (RetQ Try.prog [.tmp 6] R) [x0, x1, x2, un, un, un, un, un, un, un, un, un, un, un, un, un, un, un, un, un, un] h) : AC Try.prog 44 [x0, x1, x2] h R :=
  AC_of' (rs := [.tmp 6]) Try.func44 (by kernel_rfl) hd44 Try.ntmps44 rfl H

/-- spec.moPower -/
def c45 : IC :=
  (.seq
  (.reg [
    ⟨some 6, .assign (.const (.int .i64 0)), none⟩])
  (.seq
  (.reg [
    ⟨some 8, .move (.tmp 2), none⟩,
    ⟨some 9, .binOp .rem 3 (.const (.int .i64 1)) (.tmp 8) 3, none⟩,
    ⟨some 7, .assign (.tmp 9), none⟩])
  (.seq
  (.block 0
  (.loop
    (.seq
    (.seq
    (.reg [
      ⟨some 10, .move (.tmp 1), none⟩,
      ⟨some 11, .binOp .gtr 3 (.tmp 10) (.const (.int .i64 0)) 3, none⟩])
    (.cond (.tmp 11)
      .skip
      (.exit 0)))
    (.seq
    (.block 1
    (.seq
    (.seq
    (.reg [
      ⟨some 14, .move (.tmp 1), none⟩,
      ⟨some 15, .binOp .rem 3 (.tmp 14) (.const (.int .i64 2)) 3, none⟩,
      ⟨some 16, .binOp .eql 3 (.tmp 15) (.const (.int .i64 1)) 3, none⟩])
    (.cond (.tmp 16)
      (.reg [
        ⟨some 17, .move (.tmp 7), none⟩,
        ⟨some 18, .move (.tmp 0), none⟩,
        ⟨some 19, .binOp .mul 3 (.tmp 17) (.tmp 18) 3, none⟩,
        ⟨some 20, .move (.tmp 2), none⟩,
        ⟨some 21, .binOp .rem 3 (.tmp 19) (.tmp 20) 3, none⟩,
        ⟨some 7, .assign (.tmp 21), none⟩])
      .skip))
    (.reg [
      ⟨some 22, .move (.tmp 0), none⟩,
      ⟨some 23, .move (.tmp 0), none⟩,
      ⟨some 24, .binOp .mul 3 (.tmp 22) (.tmp 23) 3, none⟩,
      ⟨some 25, .move (.tmp 2), none⟩,
      ⟨some 26, .binOp .rem 3 (.tmp 24) (.tmp 25) 3, none⟩,
      ⟨some 0, .assign (.tmp 26), none⟩])))
    (.reg [
      ⟨some 12, .move (.tmp 1), none⟩,
      ⟨some 13, .binOp .quo 3 (.tmp 12) (.const (.int .i64 2)) 3, none⟩,
      ⟨some 1, .assign (.tmp 13), none⟩])))))
  (.seq
  (.reg [
    ⟨some 27, .move (.tmp 7), none⟩,
    ⟨some 6, .assign (.tmp 27), none⟩])
  .ret))))
theorem hd45 : Try.f45.body.map dec = some c45 := by kernel_rfl
theorem e45 {R : AV → AH → Prop} {h : AH} (x0 x1 x2 : AV) (H : h.wf → AI Try.prog c45 (RetQ Try.prog [.tmp 6] R) [x0, x1, x2, un, un, un, un, un, un, un, un, un, un, un, un, un, un, un, un, un, un, un, un, un, un, un, un, un] h) : AC Try.prog 45 [x0, x1, x2] h R :=
  AC_of' (rs := [.tmp 6]) Try.func45 (by kernel_rfl) hd45 Try.ntmps45 rfl H

/-- spec.PowersModulo -/
def c14 : IC :=
  (.seq
  (.reg [
    ⟨some 6, .assign (.const (.int .i64 0)), none⟩,
    ⟨some 7, .assign (.const (.bool false)), none⟩])
  (.seq
  (.seq
  (.reg [
    ⟨some 11, .move (.tmp 1), none⟩,
    ⟨some 12, .call { callee := .value (.func 41), args := #[.tmp 11], argTypes := #[3] }, none⟩,
    ⟨some 13, .unOp .not 4 (.tmp 12), none⟩,
    ⟨some 14, .move (.tmp 13), none⟩,
    ⟨some 15, .move (.tmp 2), some (14, false)⟩,
    ⟨some 16, .call { callee := .builtin .len, args := #[.tmp 15], argTypes := #[25] }, some (14, false)⟩,
    ⟨some 17, .call { callee := .value (.func 42), args := #[.tmp 16, .const (.int .i64 1), .const (.int .i64 6)], argTypes := #[3, 3, 3] }, some (14, false)⟩,
    ⟨some 18, .unOp .not 4 (.tmp 17), some (14, false)⟩,
    ⟨some 19, .pick (.tmp 14) (.const (.bool true)) (.tmp 18), none⟩,
    ⟨some 20, .move (.tmp 19), none⟩,
    ⟨some 21, .move (.tmp 0), some (20, false)⟩,
    ⟨some 22, .call { callee := .builtin .len, args := #[.tmp 21], argTypes := #[25] }, some (20, false)⟩,
    ⟨some 23, .move (.tmp 2), some (20, false)⟩,
    ⟨some 24, .call { callee := .builtin .len, args := #[.tmp 23], argTypes := #[25] }, some (20, false)⟩,
    ⟨some 25, .binOp .neq 3 (.tmp 22) (.tmp 24) 3, some (20, false)⟩,
    ⟨some 26, .pick (.tmp 20) (.const (.bool true)) (.tmp 25), none⟩,
    ⟨some 27, .move (.tmp 26), none⟩,
    ⟨some 28, .move (.tmp 2), some (27, false)⟩,
    ⟨some 29, .move (.tmp 1), some (27, false)⟩,
    ⟨some 30, .binOp .sub 3 (.tmp 29) (.const (.int .i64 1)) 3, some (27, false)⟩,
    ⟨some 31, .call { callee := .value (.func 44), args := #[.tmp 28, .const (.int .i64 0), .tmp 30], argTypes := #[25, 3, 3] }, some (27, false)⟩,
    ⟨some 32, .unOp .not 4 (.tmp 31), some (27, false)⟩,
    ⟨some 33, .pick (.tmp 27) (.const (.bool true)) (.tmp 32), none⟩,
    ⟨some 34, .move (.tmp 33), none⟩,
    ⟨some 35, .move (.tmp 0), some (34, false)⟩,
    ⟨some 36, .call { callee := .value (.func 44), args := #[.tmp 35, .const (.int .i64 0), .const (.int .i64 1000000)], argTypes := #[25, 3, 3] }, some (34, false)⟩,
    ⟨some 37, .unOp .not 4 (.tmp 36), some (34, false)⟩,
    ⟨some 38, .pick (.tmp 34) (.const (.bool true)) (.tmp 37), none⟩])
  (.cond (.tmp 38)
    (.seq
    (.reg [
      ⟨some 6, .assign (.const (.int .i64 0)), none⟩,
      ⟨some 7, .assign (.const (.bool false)), none⟩])
    .ret)
    .skip))
  (.seq
  (.reg [
    ⟨some 8, .assign (.const (.int .i64 1)), none⟩])
  (.seq
  (.seq
  (.reg [
    ⟨some 39, .move (.tmp 2), none⟩,
    ⟨some 40, .call { callee := .builtin .len, args := #[.tmp 39], argTypes := #[25] }, none⟩,
    ⟨some 41, .move (.const (.int .i64 0)), none⟩])
  (.block 0
  (.loop
    (.seq
    (.reg [
      ⟨some 42, .binOp .lss 3 (.tmp 41) (.tmp 40) 3, none⟩])
    (.seq
    (.cond (.tmp 42)
      .skip
      (.exit 0))
    (.seq
    (.block 1
    (.seq
    (.reg [
      ⟨some 43, .move (.tmp 41), none⟩,
      ⟨some 44, .indexAddr 25 (.tmp 39) (.tmp 41), none⟩,
      ⟨some 45, .load 3 (.tmp 44), none⟩,
      ⟨some 9, .assign (.tmp 43), none⟩,
      ⟨some 10, .assign (.tmp 45), none⟩])
    (.reg [
      ⟨some 46, .move (.tmp 8), none⟩,
      ⟨some 47, .move (.tmp 10), none⟩,
      ⟨some 48, .move (.tmp 0), none⟩,
      ⟨some 49, .move (.tmp 9), none⟩,
      ⟨some 50, .indexAddr 25 (.tmp 48) (.tmp 49), none⟩,
      ⟨some 51, .load 3 (.tmp 50), none⟩,
      ⟨some 52, .move (.tmp 1), none⟩,
      ⟨some 53, .call { callee := .value (.func 45), args := #[.tmp 47, .tmp 51, .tmp 52], argTypes := #[3, 3, 3] }, none⟩,
      ⟨some 54, .binOp .mul 3 (.tmp 46) (.tmp 53) 3, none⟩,
      ⟨some 55, .move (.tmp 1), none⟩,
      ⟨some 56, .binOp .rem 3 (.tmp 54) (.tmp 55) 3, none⟩,
      ⟨some 8, .assign (.tmp 56), none⟩])))
    (.reg [
      ⟨some 57, .binOp .add 3 (.tmp 41) (.const (.int .i64 1)) 3, none⟩,
      ⟨some 41, .move (.tmp 57), none⟩])))))))
  (.seq
  (.reg [
    ⟨some 58, .move (.tmp 8), none⟩,
    ⟨some 6, .assign (.tmp 58), none⟩,
    ⟨some 7, .assign (.const (.bool true)), none⟩])
  .ret)))))
theorem hd14 : Try.f14.body.map dec = some c14 := by kernel_rfl
theorem e14 {R : AV → AH → Prop} {h : AH} (x0 x1 x2 : AV) (H : h.wf → AI Try.prog c14 (RetQ Try.prog [.tmp 6, .tmp 7] R) [x0, x1, x2, un, un, un, un, un, un, un, un, un, un, un, un, un, un, un, un, un, un, un, un, un, un, un, un, un, un, un, un, un, un, un, un, un, un, un, un, un, un, un, un, un, un, un, un, un, un, un, un, un, un, un, un, un, un, un, un] h) : AC Try.prog 14 [x0, x1, x2] h R :=
  AC_of' (rs := [.tmp 6, .tmp 7]) Try.func14 (by kernel_rfl) hd14 Try.ntmps14 rfl H

/-- laws.toIntS -/
def c15 : IC :=
  (.seq
  (.reg [
    ⟨some 2, .assign (.const (.slice none 0 0)), none⟩])
  (.seq
  (.reg [
    ⟨some 5, .move (.tmp 0), none⟩,
    ⟨some 6, .call { callee := .builtin .len, args := #[.tmp 5], argTypes := #[25] }, none⟩,
    ⟨some 7, .makeSlice 25 (.tmp 6) (.tmp 6), none⟩,
    ⟨some 3, .assign (.tmp 7), none⟩])
  (.seq
  (.seq
  (.reg [
    ⟨some 4, .assign (.const (.int .i64 0)), none⟩])
  (.block 0
  (.loop
    (.seq
    (.seq
    (.reg [
      ⟨some 8, .move (.tmp 4), none⟩,
      ⟨some 9, .move (.tmp 0), none⟩,
      ⟨some 10, .call { callee := .builtin .len, args := #[.tmp 9], argTypes := #[25] }, none⟩,
      ⟨some 11, .binOp .lss 3 (.tmp 8) (.tmp 10) 3, none⟩])
    (.cond (.tmp 11)
      .skip
      (.exit 0)))
    (.seq
    (.block 1
    (.reg [
      ⟨some 14, .move (.tmp 3), none⟩,
      ⟨some 15, .move (.tmp 4), none⟩,
      ⟨some 16, .move (.tmp 0), none⟩,
      ⟨some 17, .move (.tmp 4), none⟩,
      ⟨some 18, .indexAddr 25 (.tmp 16) (.tmp 17), none⟩,
      ⟨some 19, .load 3 (.tmp 18), none⟩,
      ⟨some 20, .indexAddr 25 (.tmp 14) (.tmp 15), none⟩,
      ⟨none, .store 3 (.tmp 20) (.tmp 19), none⟩]))
    (.reg [
      ⟨some 12, .move (.tmp 4), none⟩,
      ⟨some 13, .binOp .add 3 (.tmp 12) (.const (.int .i64 1)) 3, none⟩,
      ⟨some 4, .assign (.tmp 13), none⟩]))))))
  (.seq
  (.reg [
    ⟨some 21, .move (.tmp 3), none⟩,
    ⟨some 2, .assign (.tmp 21), none⟩])
  .ret))))
theorem hd15 : Try.f15.body.map dec = some c15 := by kernel_rfl
theorem e15 {R : AV → AH → Prop} {h : AH} (x0 : AV) (H : h.wf → AI Try.prog c15 (RetQ Try.prog [.tmp 2] R) [x0, un, un, un, un, un, un, un, un, un, un, un, un, un, un, un, un, un, un, un, un, un] h) : AC Try.prog 15 [x0] h R :=
  AC_of' (rs := [.tmp 2]) Try.func15 (by kernel_rfl) hd15 Try.ntmps15 rfl H

/-- slices.IndexFunc[[]int,int] -/
def c78 : IC :=
  (.seq
  (.reg [
    ⟨some 4, .assign (.const (.int .i64 0)), none⟩])
  (.seq
  (.seq
  (.reg [
    ⟨some 6, .move (.tmp 0), none⟩,
    ⟨some 7, .call { callee := .builtin .len, args := #[.tmp 6], argTypes := #[25] }, none⟩,
    ⟨some 8, .move (.const (.int .i64 0)), none⟩])
  (.block 0
  (.loop
    (.seq
    (.reg [
      ⟨some 9, .binOp .lss 3 (.tmp 8) (.tmp 7) 3, none⟩])
    (.seq
    (.cond (.tmp 9)
      .skip
      (.exit 0))
    (.seq
    (.block 1
    (.seq
    (.reg [
      ⟨some 10, .move (.tmp 8), none⟩,
      ⟨some 5, .assign (.tmp 10), none⟩])
    (.seq
    (.reg [
      ⟨some 11, .move (.tmp 1), none⟩,
      ⟨some 12, .move (.tmp 0), none⟩,
      ⟨some 13, .move (.tmp 5), none⟩,
      ⟨some 14, .indexAddr 25 (.tmp 12) (.tmp 13), none⟩,
      ⟨some 15, .load 3 (.tmp 14), none⟩,
      ⟨some 16, .call { callee := .value (.tmp 11), args := #[.tmp 15], argTypes := #[3] }, none⟩])
    (.cond (.tmp 16)
      (.seq
      (.reg [
        ⟨some 17, .move (.tmp 5), none⟩,
        ⟨some 4, .assign (.tmp 17), none⟩])
      .ret)
      .skip))))
    (.reg [
      ⟨some 18, .binOp .add 3 (.tmp 8) (.const (.int .i64 1)) 3, none⟩,
      ⟨some 8, .move (.tmp 18), none⟩])))))))
  (.seq
  (.reg [
    ⟨some 4, .assign (.const (.int .i64 (-1))), none⟩])
  .ret)))
theorem hd78 : Try.f78.body.map dec = some c78 := by kernel_rfl
theorem e78 {R : AV → AH → Prop} {h : AH} (x0 x1 : AV) (H : h.wf → AI Try.prog c78 (RetQ Try.prog [.tmp 4] R) [x0, x1, un, un, un, un, un, un, un, un, un, un, un, un, un, un, un, un, un] h) : AC Try.prog 78 [x0, x1] h R :=
  AC_of' (rs := [.tmp 4]) Try.func78 (by kernel_rfl) hd78 Try.ntmps78 rfl H

/-- slices.ContainsFunc[[]int,int] -/
def c46 : IC :=
  (.seq
  (.reg [
    ⟨some 4, .assign (.const (.bool false)), none⟩])
  (.seq
  (.reg [
    ⟨some 5, .move (.tmp 0), none⟩,
    ⟨some 6, .move (.tmp 1), none⟩,
    ⟨some 7, .call { callee := .value (.func 78), args := #[.tmp 5, .tmp 6], argTypes := #[25, 41] }, none⟩,
    ⟨some 8, .binOp .geq 3 (.tmp 7) (.const (.int .i64 0)) 3, none⟩,
    ⟨some 4, .assign (.tmp 8), none⟩])
  .ret))
theorem hd46 : Try.f46.body.map dec = some c46 := by kernel_rfl
theorem e46 {R : AV → AH → Prop} {h : AH} (x0 x1 : AV) (H : h.wf → AI Try.prog c46 (RetQ Try.prog [.tmp 4] R) [x0, x1, un, un, un, un, un, un, un] h) : AC Try.prog 46 [x0, x1] h R :=
  AC_of' (rs := [.tmp 4]) Try.func46 (by kernel_rfl) hd46 Try.ntmps46 rfl H

/-- impl.in -/
def c49 : IC :=
  (.seq
  (.reg [
    ⟨some 6, .assign (.const (.bool false)), none⟩])
  (.seq
  (.reg [
    ⟨some 7, .move (.tmp 0), none⟩,
    ⟨some 8, .move (.tmp 1), none⟩,
    ⟨some 9, .binOp .geq 3 (.tmp 7) (.tmp 8) 3, none⟩,
    ⟨some 10, .move (.tmp 9), none⟩,
    ⟨some 11, .move (.tmp 0), some (10, true)⟩,
    ⟨some 12, .move (.tmp 2), some (10, true)⟩,
    ⟨some 13, .binOp .leq 3 (.tmp 11) (.tmp 12) 3, some (10, true)⟩,
    ⟨some 14, .pick (.tmp 10) (.tmp 13) (.const (.bool false)), none⟩,
    ⟨some 6, .assign (.tmp 14), none⟩])
  .ret))
theorem hd49 : Try.f49.body.map dec = some c49 := by kernel_rfl
theorem e49 {R : AV → AH → Prop} {h : AH} (x0 x1 x2 : AV) (H : h.wf → AI Try.prog c49 (RetQ Try.prog [.tmp 6] R) [x0, x1, x2, un, un, un, un, un, un, un, un, un, un, un, un] h) : AC Try.prog 49 [x0, x1, x2] h R :=
  AC_of' (rs := [.tmp 6]) Try.func49 (by kernel_rfl) hd49 Try.ntmps49 rfl H

/-- impl.modulusOk -/
def c76 : IC :=
  (.seq
  (.reg [
    ⟨some 2, .assign (.const (.bool false)), none⟩])
  (.seq
  (.reg [
    ⟨some 3, .move (.tmp 0), none⟩,
    ⟨some 4, .call { callee := .value (.func 49), args := #[.tmp 3, .const (.int .i64 2), .const (.int .i64 10000)], argTypes := #[3, 3, 3] }, none⟩,
    ⟨some 2, .assign (.tmp 4), none⟩])
  .ret))
theorem hd76 : Try.f76.body.map dec = some c76 := by kernel_rfl
theorem e76 {R : AV → AH → Prop} {h : AH} (x0 : AV) (H : h.wf → AI Try.prog c76 (RetQ Try.prog [.tmp 2] R) [x0, un, un, un, un] h) : AC Try.prog 76 [x0] h R :=
  AC_of' (rs := [.tmp 2]) Try.func76 (by kernel_rfl) hd76 Try.ntmps76 rfl H

/-- impl.residuesOk$1 -/
def c77 : IC :=
  (.seq
  (.reg [
    ⟨some 3, .assign (.const (.bool false)), none⟩])
  (.seq
  (.reg [
    ⟨some 4, .move (.tmp 0), none⟩,
    ⟨some 5, .load 3 (.tmp 1), none⟩,
    ⟨some 6, .binOp .sub 3 (.tmp 5) (.const (.int .i64 1)) 3, none⟩,
    ⟨some 7, .call { callee := .value (.func 49), args := #[.tmp 4, .const (.int .i64 0), .tmp 6], argTypes := #[3, 3, 3] }, none⟩,
    ⟨some 8, .unOp .not 4 (.tmp 7), none⟩,
    ⟨some 3, .assign (.tmp 8), none⟩])
  .ret))
theorem hd77 : Try.f77.body.map dec = some c77 := by kernel_rfl
theorem e77 {R : AV → AH → Prop} {h : AH} (x0 x1 : AV) (H : h.wf → AI Try.prog c77 (RetQ Try.prog [.tmp 3] R) [x0, x1, un, un, un, un, un, un, un] h) : AC Try.prog 77 [x0, x1] h R :=
  AC_of' (rs := [.tmp 3]) Try.func77 (by kernel_rfl) hd77 Try.ntmps77 rfl H

/-- impl.residuesOk -/
def c43 : IC :=
  (.seq
  (.reg [
    ⟨some 3, .box 3 (.tmp 1), none⟩,
    ⟨some 4, .assign (.const (.bool false)), none⟩])
  (.seq
  (.reg [
    ⟨some 5, .load 3 (.tmp 3), none⟩,
    ⟨some 6, .call { callee := .value (.func 76), args := #[.tmp 5], argTypes := #[3] }, none⟩,
    ⟨some 7, .move (.tmp 6), none⟩,
    ⟨some 8, .move (.tmp 0), some (7, true)⟩,
    ⟨some 9, .makeFunc (.func 77) #[] #[.tmp 3], some (7, true)⟩,
    ⟨some 10, .call { callee := .value (.func 46), args := #[.tmp 8, .tmp 9], argTypes := #[25, 41] }, some (7, true)⟩,
    ⟨some 11, .unOp .not 4 (.tmp 10), some (7, true)⟩,
    ⟨some 12, .pick (.tmp 7) (.tmp 11) (.const (.bool false)), none⟩,
    ⟨some 4, .assign (.tmp 12), none⟩])
  .ret))
theorem hd43 : Try.f43.body.map dec = some c43 := by kernel_rfl
theorem e43 {R : AV → AH → Prop} {h : AH} (x0 x1 : AV) (H : h.wf → AI Try.prog c43 (RetQ Try.prog [.tmp 4] R) [x0, x1, un, un, un, un, un, un, un, un, un, un, un] h) : AC Try.prog 43 [x0, x1] h R :=
  AC_of' (rs := [.tmp 4]) Try.func43 (by kernel_rfl) hd43 Try.ntmps43 rfl H

/-- impl.exponentOk -/
def c48 : IC :=
  (.seq
  (.reg [
    ⟨some 2, .assign (.const (.bool false)), none⟩])
  (.seq
  (.reg [
    ⟨some 3, .move (.tmp 0), none⟩,
    ⟨some 4, .call { callee := .value (.func 49), args := #[.tmp 3, .const (.int .i64 0), .const (.int .i64 1000000)], argTypes := #[3, 3, 3] }, none⟩,
    ⟨some 2, .assign (.tmp 4), none⟩])
  .ret))
theorem hd48 : Try.f48.body.map dec = some c48 := by kernel_rfl
theorem e48 {R : AV → AH → Prop} {h : AH} (x0 : AV) (H : h.wf → AI Try.prog c48 (RetQ Try.prog [.tmp 2] R) [x0, un, un, un, un] h) : AC Try.prog 48 [x0] h R :=
  AC_of' (rs := [.tmp 2]) Try.func48 (by kernel_rfl) hd48 Try.ntmps48 rfl H

/-- impl.PowersModulo$1 -/
def c47 : IC :=
  (.seq
  (.reg [
    ⟨some 2, .assign (.const (.bool false)), none⟩])
  (.seq
  (.reg [
    ⟨some 3, .move (.tmp 0), none⟩,
    ⟨some 4, .call { callee := .value (.func 48), args := #[.tmp 3], argTypes := #[3] }, none⟩,
    ⟨some 5, .unOp .not 4 (.tmp 4), none⟩,
    ⟨some 2, .assign (.tmp 5), none⟩])
  .ret))
theorem hd47 : Try.f47.body.map dec = some c47 := by kernel_rfl
theorem e47 {R : AV → AH → Prop} {h : AH} (x0 : AV) (H : h.wf → AI Try.prog c47 (RetQ Try.prog [.tmp 2] R) [x0, un, un, un, un, un] h) : AC Try.prog 47 [x0] h R :=
  AC_of' (rs := [.tmp 2]) Try.func47 (by kernel_rfl) hd47 Try.ntmps47 rfl H

/-- impl.PowersModulo$2 -/
def c50 : IC :=
  (.seq
  (.reg [
    ⟨some 5, .assign (.const (.int .i64 0)), none⟩])
  (.seq
  (.reg [
    ⟨some 6, .move (.tmp 0), none⟩,
    ⟨some 7, .move (.tmp 1), none⟩,
    ⟨some 8, .binOp .mul 3 (.tmp 6) (.tmp 7) 3, none⟩,
    ⟨some 9, .load 3 (.tmp 2), none⟩,
    ⟨some 10, .binOp .rem 3 (.tmp 8) (.tmp 9) 3, none⟩,
    ⟨some 5, .assign (.tmp 10), none⟩])
  .ret))
theorem hd50 : Try.f50.body.map dec = some c50 := by kernel_rfl
theorem e50 {R : AV → AH → Prop} {h : AH} (x0 x1 x2 : AV) (H : h.wf → AI Try.prog c50 (RetQ Try.prog [.tmp 5] R) [x0, x1, x2, un, un, un, un, un, un, un, un] h) : AC Try.prog 50 [x0, x1, x2] h R :=
  AC_of' (rs := [.tmp 5]) Try.func50 (by kernel_rfl) hd50 Try.ntmps50 rfl H

/-- impl.power[int] -/
def c51 : IC :=
  (.seq
  (.reg [
    ⟨some 8, .assign (.const (.int .i64 0)), none⟩])
  (.seq
  (.block 0
  (.loop
    (.seq
    (.seq
    (.reg [
      ⟨some 9, .move (.tmp 2), none⟩,
      ⟨some 10, .binOp .gtr 3 (.tmp 9) (.const (.int .i64 0)) 3, none⟩])
    (.cond (.tmp 10)
      .skip
      (.exit 0)))
    (.seq
    (.block 1
    (.seq
    (.seq
    (.reg [
      ⟨some 13, .move (.tmp 2), none⟩,
      ⟨some 14, .binOp .rem 3 (.tmp 13) (.const (.int .i64 2)) 3, none⟩,
      ⟨some 15, .binOp .eql 3 (.tmp 14) (.const (.int .i64 1)) 3, none⟩])
    (.cond (.tmp 15)
      (.reg [
        ⟨some 16, .move (.tmp 3), none⟩,
        ⟨some 17, .move (.tmp 1), none⟩,
        ⟨some 18, .move (.tmp 0), none⟩,
        ⟨some 19, .call { callee := .value (.tmp 16), args := #[.tmp 17, .tmp 18], argTypes := #[3, 3] }, none⟩,
        ⟨some 1, .assign (.tmp 19), none⟩])
      .skip))
    (.reg [
      ⟨some 20, .move (.tmp 3), none⟩,
      ⟨some 21, .move (.tmp 0), none⟩,
      ⟨some 22, .move (.tmp 0), none⟩,
      ⟨some 23, .call { callee := .value (.tmp 20), args := #[.tmp 21, .tmp 22], argTypes := #[3, 3] }, none⟩,
      ⟨some 0, .assign (.tmp 23), none⟩])))
    (.reg [
      ⟨some 11, .move (.tmp 2), none⟩,
      ⟨some 12, .binOp .quo 3 (.tmp 11) (.const (.int .i64 2)) 3, none⟩,
      ⟨some 2, .assign (.tmp 12), none⟩])))))
  (.seq
  (.reg [
    ⟨some 24, .move (.tmp 1), none⟩,
    ⟨some 8, .assign (.tmp 24), none⟩])
  .ret)))
theorem hd51 : Try.f51.body.map dec = some c51 := by kernel_rfl
theorem e51 {R : AV → AH → Prop} {h : AH} (x0 x1 x2 x3 : AV) (H : h.wf → AI Try.prog c51 (RetQ Try.prog [.tmp 8] R) [x0, x1, x2, x3, un, un, un, un, un, un, un, un, un, un, un, un, un, un, un, un, un, un, un, un, un] h) : AC Try.prog 51 [x0, x1, x2, x3] h R :=
  AC_of' (rs := [.tmp 8]) Try.func51 (by kernel_rfl) hd51 Try.ntmps51 rfl H

/-- impl.PowersModulo -/
def c16 : IC :=
  (.seq
  (.reg [
    ⟨some 4, .box 3 (.tmp 1), none⟩,
    ⟨some 6, .assign (.const (.int .i64 0)), none⟩,
    ⟨some 7, .assign (.const (.bool false)), none⟩])
  (.seq
  (.reg [
    ⟨some 13, .move (.tmp 0), none⟩,
    ⟨some 14, .call { callee := .value (.func 46), args := #[.tmp 13, .func 47], argTypes := #[25, 41] }, none⟩,
    ⟨some 8, .assign (.tmp 14), none⟩])
  (.seq
  (.seq
  (.reg [
    ⟨some 15, .move (.tmp 8), none⟩,
    ⟨some 16, .move (.tmp 15), none⟩,
    ⟨some 17, .move (.tmp 2), some (16, false)⟩,
    ⟨some 18, .load 3 (.tmp 4), some (16, false)⟩,
    ⟨some 19, .call { callee := .value (.func 43), args := #[.tmp 17, .tmp 18], argTypes := #[25, 3] }, some (16, false)⟩,
    ⟨some 20, .unOp .not 4 (.tmp 19), some (16, false)⟩,
    ⟨some 21, .pick (.tmp 16) (.const (.bool true)) (.tmp 20), none⟩,
    ⟨some 22, .move (.tmp 21), none⟩,
    ⟨some 23, .move (.tmp 2), some (22, false)⟩,
    ⟨some 24, .call { callee := .builtin .len, args := #[.tmp 23], argTypes := #[25] }, some (22, false)⟩,
    ⟨some 25, .call { callee := .value (.func 49), args := #[.tmp 24, .const (.int .i64 1), .const (.int .i64 6)], argTypes := #[3, 3, 3] }, some (22, false)⟩,
    ⟨some 26, .unOp .not 4 (.tmp 25), some (22, false)⟩,
    ⟨some 27, .pick (.tmp 22) (.const (.bool true)) (.tmp 26), none⟩,
    ⟨some 28, .move (.tmp 27), none⟩,
    ⟨some 29, .move (.tmp 0), some (28, false)⟩,
    ⟨some 30, .call { callee := .builtin .len, args := #[.tmp 29], argTypes := #[25] }, some (28, false)⟩,
    ⟨some 31, .move (.tmp 2), some (28, false)⟩,
    ⟨some 32, .call { callee := .builtin .len, args := #[.tmp 31], argTypes := #[25] }, some (28, false)⟩,
    ⟨some 33, .binOp .neq 3 (.tmp 30) (.tmp 32) 3, some (28, false)⟩,
    ⟨some 34, .pick (.tmp 28) (.const (.bool true)) (.tmp 33), none⟩])
  (.cond (.tmp 34)
    (.seq
    (.reg [
      ⟨some 6, .assign (.const (.int .i64 0)), none⟩,
      ⟨some 7, .assign (.const (.bool false)), none⟩])
    .ret)
    .skip))
  (.seq
  (.reg [
    ⟨some 35, .makeFunc (.func 50) #[] #[.tmp 4], none⟩,
    ⟨some 9, .assign (.tmp 35), none⟩,
    ⟨some 10, .assign (.const (.int .i64 1)), none⟩])
  (.seq
  (.seq
  (.reg [
    ⟨some 36, .move (.tmp 0), none⟩,
    ⟨some 37, .call { callee := .builtin .len, args := #[.tmp 36], argTypes := #[25] }, none⟩,
    ⟨some 38, .move (.const (.int .i64 0)), none⟩])
  (.block 0
  (.loop
    (.seq
    (.reg [
      ⟨some 39, .binOp .lss 3 (.tmp 38) (.tmp 37) 3, none⟩])
    (.seq
    (.cond (.tmp 39)
      .skip
      (.exit 0))
    (.seq
    (.block 1
    (.seq
    (.reg [
      ⟨some 40, .move (.tmp 38), none⟩,
      ⟨some 41, .indexAddr 25 (.tmp 36) (.tmp 38), none⟩,
      ⟨some 42, .load 3 (.tmp 41), none⟩,
      ⟨some 11, .assign (.tmp 40), none⟩,
      ⟨some 12, .assign (.tmp 42), none⟩])
    (.reg [
      ⟨some 43, .move (.tmp 9), none⟩,
      ⟨some 44, .move (.tmp 10), none⟩,
      ⟨some 45, .move (.tmp 2), none⟩,
      ⟨some 46, .move (.tmp 11), none⟩,
      ⟨some 47, .indexAddr 25 (.tmp 45) (.tmp 46), none⟩,
      ⟨some 48, .load 3 (.tmp 47), none⟩,
      ⟨some 49, .move (.tmp 12), none⟩,
      ⟨some 50, .move (.tmp 9), none⟩,
      ⟨some 51, .call { callee := .value (.func 51), args := #[.tmp 48, .const (.int .i64 1), .tmp 49, .tmp 50], argTypes := #[3, 3, 3, 65] }, none⟩,
      ⟨some 52, .call { callee := .value (.tmp 43), args := #[.tmp 44, .tmp 51], argTypes := #[3, 3] }, none⟩,
      ⟨some 10, .assign (.tmp 52), none⟩])))
    (.reg [
      ⟨some 53, .binOp .add 3 (.tmp 38) (.const (.int .i64 1)) 3, none⟩,
      ⟨some 38, .move (.tmp 53), none⟩])))))))
  (.seq
  (.reg [
    ⟨some 54, .move (.tmp 10), none⟩,
    ⟨some 6, .assign (.tmp 54), none⟩,
    ⟨some 7, .assign (.const (.bool true)), none⟩])
  .ret))))))
theorem hd16 : Try.f16.body.map dec = some c16 := by kernel_rfl
theorem e16 {R : AV → AH → Prop} {h : AH} (x0 x1 x2 : AV) (H : h.wf → AI Try.prog c16 (RetQ Try.prog [.tmp 6, .tmp 7] R) [x0, x1, x2, un, un, un, un, un, un, un, un, un, un, un, un, un, un, un, un, un, un, un, un, un, un, un, un, un, un, un, un, un, un, un, un, un, un, un, un, un, un, un, un, un, un, un, un, un, un, un, un, un, un, un, un] h) : AC Try.prog 16 [x0, x1, x2] h R :=
  AC_of' (rs := [.tmp 6, .tmp 7]) Try.func16 (by kernel_rfl) hd16 Try.ntmps16 rfl H

noncomputable def rg17_0 : Array Oper := rawAt Try.f17 0
/-- laws.eqIntS -/
noncomputable def c17 : IC :=
  (.seq
  (.reg [
    ⟨some 4, .assign (.const (.bool false)), none⟩])
  (.seq
  (.seq
  (.reg [
    ⟨some 6, .move (.tmp 0), none⟩,
    ⟨some 7, .call { callee := .builtin .len, args := #[.tmp 6], argTypes := #[25] }, none⟩,
    ⟨some 8, .move (.tmp 1), none⟩,
    ⟨some 9, .call { callee := .builtin .len, args := #[.tmp 8], argTypes := #[25] }, none⟩,
    ⟨some 10, .binOp .neq 3 (.tmp 7) (.tmp 9) 3, none⟩])
  (.cond (.tmp 10)
    (.seq
    (.reg [
      ⟨some 4, .assign (.const (.bool false)), none⟩])
    .ret)
    .skip))
  (.seq
  (.seq
  (.reg [
    ⟨some 5, .assign (.const (.int .i64 0)), none⟩])
  (.block 0
  (.loop
    (.seq
    (.seq
    (.reg [
      ⟨some 11, .move (.tmp 5), none⟩,
      ⟨some 12, .move (.tmp 0), none⟩,
      ⟨some 13, .call { callee := .builtin .len, args := #[.tmp 12], argTypes := #[25] }, none⟩,
      ⟨some 14, .binOp .lss 3 (.tmp 11) (.tmp 13) 3, none⟩])
    (.cond (.tmp 14)
      .skip
      (.exit 0)))
    (.seq
    (.block 1
    (.seq
    (.raw (.region 6 rg17_0 true))
    (.cond (.tmp 25)
      (.seq
      (.reg [
        ⟨some 4, .assign (.const (.bool false)), none⟩])
      .ret)
      .skip)))
    (.reg [
      ⟨some 15, .move (.tmp 5), none⟩,
      ⟨some 16, .binOp .add 3 (.tmp 15) (.const (.int .i64 1)) 3, none⟩,
      ⟨some 5, .assign (.tmp 16), none⟩]))))))
  (.seq
  (.reg [
    ⟨some 4, .assign (.const (.bool true)), none⟩])
  .ret))))
theorem hd17 : Try.f17.body.map dec = some c17 := by kernel_rfl
theorem e17 {R : AV → AH → Prop} {h : AH} (x0 x1 : AV) (H : h.wf → AI Try.prog c17 (RetQ Try.prog [.tmp 4] R) [x0, x1, un, un, un, un, un, un, un, un, un, un, un, un, un, un, un, un, un, un, un, un, un, un, un, un] h) : AC Try.prog 17 [x0, x1] h R :=
  AC_of' (rs := [.tmp 4]) Try.func17 (by kernel_rfl) hd17 Try.ntmps17 rfl H
theorem dr17_0 {Q : Exit → List AV → AH → Prop} {a : List AV} {h : AH} {id : Nat} (H : AX Try.prog false h [(⟨some 17, .move (.tmp 0), none⟩, true),
  (⟨some 18, .move (.tmp 5), none⟩, true),
  (⟨some 19, .indexAddr 25 (.tmp 17) (.tmp 18), none⟩, true),
  (⟨some 20, .load 3 (.tmp 19), none⟩, true),
  (⟨some 21, .move (.tmp 1), none⟩, true),
  (⟨some 22, .move (.tmp 5), none⟩, true),
  (⟨some 23, .indexAddr 25 (.tmp 21) (.tmp 22), none⟩, true),
  (⟨some 24, .load 3 (.tmp 23), none⟩, true),
  (⟨some 25, .binOp .neq 3 (.tmp 20) (.tmp 24) 3, none⟩, true)] (fun a' h' => Q .normal a' h') a h) : AI Try.prog (.raw (.region id rg17_0 true)) Q a h :=
  AI_draw [(0, true), (1, true), (2, true), (3, true), (4, true), (5, true), (6, true), (7, true), (8, true)] false (by kernel_rfl) (by kernel_rfl) (by kernel_rfl) H

/-- laws.FnExactPowersModulo -/
def c4 : IC :=
  (.seq
  (.reg [
    ⟨some 6, .assign (.const (.bool false)), none⟩])
  (.seq
  (.seq
  (.reg [
    ⟨some 13, .move (.tmp 0), none⟩,
    ⟨some 14, .call { callee := .builtin .len, args := #[.tmp 13], argTypes := #[25] }, none⟩,
    ⟨some 15, .binOp .gtr 3 (.tmp 14) (.const (.int .i64 1048576)) 3, none⟩])
  (.cond (.tmp 15)
    (.seq
    (.reg [
      ⟨some 6, .assign (.const (.bool true)), none⟩])
    .ret)
    .skip))
  (.seq
  (.seq
  (.reg [
    ⟨some 16, .move (.tmp 2), none⟩,
    ⟨some 17, .call { callee := .builtin .len, args := #[.tmp 16], argTypes := #[25] }, none⟩,
    ⟨some 18, .binOp .gtr 3 (.tmp 17) (.const (.int .i64 1048576)) 3, none⟩])
  (.cond (.tmp 18)
    (.seq
    (.reg [
      ⟨some 6, .assign (.const (.bool true)), none⟩])
    .ret)
    .skip))
  (.seq
  (.reg [
    ⟨some 20, .move (.tmp 0), none⟩,
    ⟨some 21, .call { callee := .value (.func 15), args := #[.tmp 20], argTypes := #[25] }, none⟩,
    ⟨some 22, .move (.tmp 1), none⟩,
    ⟨some 23, .move (.tmp 2), none⟩,
    ⟨some 24, .call { callee := .value (.func 15), args := #[.tmp 23], argTypes := #[25] }, none⟩,
    ⟨some 25, .call { callee := .value (.func 14), args := #[.tmp 21, .tmp 22, .tmp 24], argTypes := #[25, 3, 25] }, none⟩,
    ⟨some 19, .move (.tmp 25), none⟩,
    ⟨some 26, .extract (.tmp 19) 0, none⟩,
    ⟨some 27, .extract (.tmp 19) 1, none⟩,
    ⟨some 7, .assign (.tmp 26), none⟩,
    ⟨some 8, .assign (.tmp 27), none⟩])
  (.seq
  (.reg [
    ⟨some 28, .move (.tmp 0), none⟩,
    ⟨some 29, .call { callee := .value (.func 15), args := #[.tmp 28], argTypes := #[25] }, none⟩,
    ⟨some 9, .assign (.tmp 29), none⟩])
  (.seq
  (.reg [
    ⟨some 30, .move (.tmp 2), none⟩,
    ⟨some 31, .call { callee := .value (.func 15), args := #[.tmp 30], argTypes := #[25] }, none⟩,
    ⟨some 10, .assign (.tmp 31), none⟩])
  (.seq
  (.reg [
    ⟨some 33, .move (.tmp 9), none⟩,
    ⟨some 34, .move (.tmp 1), none⟩,
    ⟨some 35, .move (.tmp 10), none⟩,
    ⟨some 36, .call { callee := .value (.func 16), args := #[.tmp 33, .tmp 34, .tmp 35], argTypes := #[25, 3, 25] }, none⟩,
    ⟨some 32, .move (.tmp 36), none⟩,
    ⟨some 37, .extract (.tmp 32) 0, none⟩,
    ⟨some 38, .extract (.tmp 32) 1, none⟩,
    ⟨some 11, .assign (.tmp 37), none⟩,
    ⟨some 12, .assign (.tmp 38), none⟩])
  (.seq
  (.seq
  (.reg [
    ⟨some 39, .move (.tmp 11), none⟩,
    ⟨some 40, .move (.tmp 7), none⟩,
    ⟨some 41, .binOp .neq 3 (.tmp 39) (.tmp 40) 3, none⟩,
    ⟨some 42, .move (.tmp 41), none⟩,
    ⟨some 43, .move (.tmp 12), some (42, false)⟩,
    ⟨some 44, .move (.tmp 8), some (42, false)⟩,
    ⟨some 45, .binOp .neq 4 (.tmp 43) (.tmp 44) 4, some (42, false)⟩,
    ⟨some 46, .pick (.tmp 42) (.const (.bool true)) (.tmp 45), none⟩])
  (.cond (.tmp 46)
    (.seq
    (.reg [
      ⟨some 6, .assign (.const (.bool false)), none⟩])
    .ret)
    .skip))
  (.seq
  (.seq
  (.reg [
    ⟨some 47, .move (.tmp 9), none⟩,
    ⟨some 48, .move (.tmp 0), none⟩,
    ⟨some 49, .call { callee := .value (.func 15), args := #[.tmp 48], argTypes := #[25] }, none⟩,
    ⟨some 50, .call { callee := .value (.func 17), args := #[.tmp 47, .tmp 49], argTypes := #[25, 25] }, none⟩,
    ⟨some 51, .unOp .not 4 (.tmp 50), none⟩])
  (.cond (.tmp 51)
    (.seq
    (.reg [
      ⟨some 6, .assign (.const (.bool false)), none⟩])
    .ret)
    .skip))
  (.seq
  (.seq
  (.reg [
    ⟨some 52, .move (.tmp 10), none⟩,
    ⟨some 53, .move (.tmp 2), none⟩,
    ⟨some 54, .call { callee := .value (.func 15), args := #[.tmp 53], argTypes := #[25] }, none⟩,
    ⟨some 55, .call { callee := .value (.func 17), args := #[.tmp 52, .tmp 54], argTypes := #[25, 25] }, none⟩,
    ⟨some 56, .unOp .not 4 (.tmp 55), none⟩])
  (.cond (.tmp 56)
    (.seq
    (.reg [
      ⟨some 6, .assign (.const (.bool false)), none⟩])
    .ret)
    .skip))
  (.seq
  (.reg [
    ⟨some 6, .assign (.const (.bool true)), none⟩])
  .ret)))))))))))
theorem hd4 : Try.f4.body.map dec = some c4 := by kernel_rfl
theorem e4 {R : AV → AH → Prop} {h : AH} (x0 x1 x2 : AV) (H : h.wf → AI Try.prog c4 (RetQ Try.prog [.tmp 6] R) [x0, x1, x2, un, un, un, un, un, un, un, un, un, un, un, un, un, un, un, un, un, un, un, un, un, un, un, un, un, un, un, un, un, un, un, un, un, un, un, un, un, un, un, un, un, un, un, un, un, un, un, un, un, un, un, un, un, un] h) : AC Try.prog 4 [x0, x1, x2] h R :=
  AC_of' (rs := [.tmp 6]) Try.func4 (by kernel_rfl) hd4 Try.ntmps4 rfl H

end Go.Proofs.Ytfgealbhigkddaa
