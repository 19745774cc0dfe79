/- The short forms of the functions' code, and facts on types. -/
import Derived.Test.YtfgealbhigkddaaProg
import Derived.Test.YtfgealbhigkddaaB9
namespace Go.Proofs.Ytfgealbhigkddaa
open Go.AL
set_option linter.unusedVariables false
theorem sz0 : szT Try.prog 0 = some 1 := by kernel_rfl
theorem by0 : byT Try.prog 0 = some 0 := by kernel_rfl
theorem ag0 : aggT Try.prog 0 = some false := by kernel_rfl
theorem sz1 : szT Try.prog 1 = some 1 := by kernel_rfl
theorem by1 : byT Try.prog 1 = some 8 := by kernel_rfl
theorem ag1 : aggT Try.prog 1 = some false := by kernel_rfl
theorem ze1 : zeroA Try.prog 1 = some .nf := by kernel_rfl
theorem sz3 : szT Try.prog 3 = some 1 := by kernel_rfl
theorem by3 : byT Try.prog 3 = some 8 := by kernel_rfl
theorem ag3 : aggT Try.prog 3 = some false := by kernel_rfl
theorem ze3 : zeroA Try.prog 3 = some (.i .i64 0) := by kernel_rfl
theorem sz4 : szT Try.prog 4 = some 1 := by kernel_rfl
theorem by4 : byT Try.prog 4 = some 1 := by kernel_rfl
theorem ag4 : aggT Try.prog 4 = some false := by kernel_rfl
theorem ze4 : zeroA Try.prog 4 = some (.b false) := by kernel_rfl
theorem sz25 : szT Try.prog 25 = some 1 := by kernel_rfl
theorem by25 : byT Try.prog 25 = some 24 := by kernel_rfl
theorem ag25 : aggT Try.prog 25 = some false := by kernel_rfl
theorem ze25 : zeroA Try.prog 25 = some .ns := by kernel_rfl
theorem sz42 : szT Try.prog 42 = some 1 := by kernel_rfl
theorem by42 : byT Try.prog 42 = some 24 := by kernel_rfl
theorem ag42 : aggT Try.prog 42 = some false := by kernel_rfl
theorem ze42 : zeroA Try.prog 42 = some .ns := by kernel_rfl
theorem sz80 : szT Try.prog 80 = some 1 := by kernel_rfl
theorem by80 : byT Try.prog 80 = some 8 := by kernel_rfl
theorem ag80 : aggT Try.prog 80 = some false := by kernel_rfl
theorem ze80 : zeroA Try.prog 80 = some .nf := by kernel_rfl

/-- laws.szIntS -/
def c65 : IC :=
  (.seq
  (.reg [
    ⟨some 4, .assign (.const (.int .i64 0)), none⟩])
  (.seq
  (.reg [
    ⟨some 5, .move (.tmp 1), none⟩,
    ⟨some 6, .move (.tmp 0), none⟩,
    ⟨some 7, .call { callee := .builtin .len, args := #[.tmp 6], argTypes := #[25] }, none⟩,
    ⟨some 8, .binOp .sub 3 (.tmp 5) (.tmp 7) 3, none⟩,
    ⟨some 1, .assign (.tmp 8), none⟩])
  (.seq
  (.seq
  (.reg [
    ⟨some 9, .move (.tmp 1), none⟩,
    ⟨some 10, .binOp .lss 3 (.tmp 9) (.const (.int .i64 0)) 3, none⟩])
  (.cond (.tmp 10)
    (.seq
    (.reg [
      ⟨some 4, .assign (.const (.int .i64 (-1))), none⟩])
    .ret)
    .skip))
  (.seq
  (.reg [
    ⟨some 11, .move (.tmp 1), none⟩,
    ⟨some 4, .assign (.tmp 11), none⟩])
  .ret))))
theorem hd65 : Try.f65.body.map dec = some c65 := by kernel_rfl
theorem e65 {R : AV → AH → Prop} {h : AH} (x0 x1 : AV) (H : h.wf → AI Try.prog c65 (RetQ Try.prog [.tmp 4] R) [x0, x1, un, un, un, un, un, un, un, un, un, un] h) : AC Try.prog 65 [x0, x1] h R :=
  AC_of' (rs := [.tmp 4]) Try.func65 (by kernel_rfl) hd65 Try.ntmps65 rfl H

/-- laws.szIntSS -/
def c28 : IC :=
  (.seq
  (.reg [
    ⟨some 4, .assign (.const (.int .i64 0)), none⟩])
  (.seq
  (.reg [
    ⟨some 6, .move (.tmp 1), none⟩,
    ⟨some 7, .move (.tmp 0), none⟩,
    ⟨some 8, .call { callee := .builtin .len, args := #[.tmp 7], argTypes := #[42] }, none⟩,
    ⟨some 9, .binOp .sub 3 (.tmp 6) (.tmp 8) 3, none⟩,
    ⟨some 1, .assign (.tmp 9), none⟩])
  (.seq
  (.seq
  (.reg [
    ⟨some 10, .move (.tmp 1), none⟩,
    ⟨some 11, .binOp .lss 3 (.tmp 10) (.const (.int .i64 0)) 3, none⟩])
  (.cond (.tmp 11)
    (.seq
    (.reg [
      ⟨some 4, .assign (.const (.int .i64 (-1))), none⟩])
    .ret)
    .skip))
  (.seq
  (.seq
  (.reg [
    ⟨some 5, .assign (.const (.int .i64 0)), none⟩])
  (.block 0
  (.loop
    (.seq
    (.seq
    (.reg [
      ⟨some 12, .move (.tmp 5), none⟩,
      ⟨some 13, .move (.tmp 0), none⟩,
      ⟨some 14, .call { callee := .builtin .len, args := #[.tmp 13], argTypes := #[42] }, none⟩,
      ⟨some 15, .binOp .lss 3 (.tmp 12) (.tmp 14) 3, none⟩])
    (.cond (.tmp 15)
      .skip
      (.exit 0)))
    (.seq
    (.block 1
    (.seq
    (.reg [
      ⟨some 18, .move (.tmp 0), none⟩,
      ⟨some 19, .move (.tmp 5), none⟩,
      ⟨some 20, .indexAddr 42 (.tmp 18) (.tmp 19), none⟩,
      ⟨some 21, .load 25 (.tmp 20), none⟩,
      ⟨some 22, .move (.tmp 1), none⟩,
      ⟨some 23, .call { callee := .value (.func 65), args := #[.tmp 21, .tmp 22], argTypes := #[25, 3] }, none⟩,
      ⟨some 1, .assign (.tmp 23), none⟩])
    (.seq
    (.reg [
      ⟨some 24, .move (.tmp 1), none⟩,
      ⟨some 25, .binOp .lss 3 (.tmp 24) (.const (.int .i64 0)) 3, none⟩])
    (.cond (.tmp 25)
      (.seq
      (.reg [
        ⟨some 4, .assign (.const (.int .i64 (-1))), none⟩])
      .ret)
      .skip))))
    (.reg [
      ⟨some 16, .move (.tmp 5), none⟩,
      ⟨some 17, .binOp .add 3 (.tmp 16) (.const (.int .i64 1)) 3, none⟩,
      ⟨some 5, .assign (.tmp 17), none⟩]))))))
  (.seq
  (.reg [
    ⟨some 26, .move (.tmp 1), none⟩,
    ⟨some 4, .assign (.tmp 26), none⟩])
  .ret)))))
theorem hd28 : Try.f28.body.map dec = some c28 := by kernel_rfl
theorem e28 {R : AV → AH → Prop} {h : AH} (x0 x1 : AV) (H : h.wf → AI Try.prog c28 (RetQ Try.prog [.tmp 4] R) [x0, x1, un, un, un, un, un, un, un, un, un, un, un, un, un, un, un, un, un, un, un, un, un, un, un, un, un] h) : AC Try.prog 28 [x0, x1] h R :=
  AC_of' (rs := [.tmp 4]) Try.func28 (by kernel_rfl) hd28 Try.ntmps28 rfl H

/-- spec.l1In -/
def c42 : IC :=
  (.seq
  (.reg [
    ⟨some 6, .assign (.const (.bool false)), none⟩])
  (.seq
  (.reg [
    ⟨some 7, .move (.tmp 0), none⟩,
    ⟨some 8, .move (.tmp 1), none⟩,
    ⟨some 9, .binOp .geq 3 (.tmp 7) (.tmp 8) 3, none⟩,
    ⟨some 10, .move (.tmp 9), none⟩,
    ⟨some 11, .move (.tmp 0), some (10, true)⟩,
    ⟨some 12, .move (.tmp 2), some (10, true)⟩,
    ⟨some 13, .binOp .leq 3 (.tmp 11) (.tmp 12) 3, some (10, true)⟩,
    ⟨some 14, .pick (.tmp 10) (.tmp 13) (.const (.bool false)), none⟩,
    ⟨some 6, .assign (.tmp 14), none⟩])
  .ret))
theorem hd42 : Try.f42.body.map dec = some c42 := by kernel_rfl
theorem e42 {R : AV → AH → Prop} {h : AH} (x0 x1 x2 : AV) (H : h.wf → AI Try.prog c42 (RetQ Try.prog [.tmp 6] R) [x0, x1, x2, un, un, un, un, un, un, un, un, un, un, un, un] h) : AC Try.prog 42 [x0, x1, x2] h R :=
  AC_of' (rs := [.tmp 6]) Try.func42 (by kernel_rfl) hd42 Try.ntmps42 rfl H

/-- spec.TransposeRows -/
def c29 : IC :=
  (.seq
  (.reg [
    ⟨some 2, .assign (.const (.slice none 0 0)), none⟩,
    ⟨some 3, .assign (.const (.bool false)), none⟩])
  (.seq
  (.seq
  (.reg [
    ⟨some 11, .move (.tmp 0), none⟩,
    ⟨some 12, .call { callee := .builtin .len, args := #[.tmp 11], argTypes := #[42] }, none⟩,
    ⟨some 13, .call { callee := .value (.func 42), args := #[.tmp 12, .const (.int .i64 1), .const (.int .i64 40)], argTypes := #[3, 3, 3] }, none⟩,
    ⟨some 14, .unOp .not 4 (.tmp 13), none⟩,
    ⟨some 15, .move (.tmp 14), none⟩,
    ⟨some 16, .move (.tmp 0), some (15, false)⟩,
    ⟨some 17, .indexAddr 42 (.tmp 16) (.const (.int .i64 0)), some (15, false)⟩,
    ⟨some 18, .load 25 (.tmp 17), some (15, false)⟩,
    ⟨some 19, .call { callee := .builtin .len, args := #[.tmp 18], argTypes := #[25] }, some (15, false)⟩,
    ⟨some 20, .binOp .gtr 3 (.tmp 19) (.const (.int .i64 40)) 3, some (15, false)⟩,
    ⟨some 21, .pick (.tmp 15) (.const (.bool true)) (.tmp 20), none⟩])
  (.cond (.tmp 21)
    (.seq
    (.reg [
      ⟨some 2, .assign (.const (.slice none 0 0)), none⟩,
      ⟨some 3, .assign (.const (.bool false)), none⟩])
    .ret)
    .skip))
  (.seq
  (.seq
  (.reg [
    ⟨some 22, .move (.tmp 0), none⟩,
    ⟨some 23, .call { callee := .builtin .len, args := #[.tmp 22], argTypes := #[42] }, none⟩,
    ⟨some 24, .move (.const (.int .i64 0)), none⟩])
  (.block 0
  (.loop
    (.seq
    (.reg [
      ⟨some 25, .binOp .lss 3 (.tmp 24) (.tmp 23) 3, none⟩])
    (.seq
    (.cond (.tmp 25)
      .skip
      (.exit 0))
    (.seq
    (.block 1
    (.seq
    (.reg [
      ⟨some 26, .indexAddr 42 (.tmp 22) (.tmp 24), none⟩,
      ⟨some 27, .load 25 (.tmp 26), none⟩,
      ⟨some 5, .assign (.tmp 27), none⟩])
    (.seq
    (.reg [
      ⟨some 28, .move (.tmp 5), none⟩,
      ⟨some 29, .call { callee := .builtin .len, args := #[.tmp 28], argTypes := #[25] }, none⟩,
      ⟨some 30, .move (.tmp 0), none⟩,
      ⟨some 31, .indexAddr 42 (.tmp 30) (.const (.int .i64 0)), none⟩,
      ⟨some 32, .load 25 (.tmp 31), none⟩,
      ⟨some 33, .call { callee := .builtin .len, args := #[.tmp 32], argTypes := #[25] }, none⟩,
      ⟨some 34, .binOp .neq 3 (.tmp 29) (.tmp 33) 3, none⟩])
    (.cond (.tmp 34)
      (.seq
      (.reg [
        ⟨some 2, .assign (.const (.slice none 0 0)), none⟩,
        ⟨some 3, .assign (.const (.bool false)), none⟩])
      .ret)
      .skip))))
    (.reg [
      ⟨some 35, .binOp .add 3 (.tmp 24) (.const (.int .i64 1)) 3, none⟩,
      ⟨some 24, .move (.tmp 35), none⟩])))))))
  (.seq
  (.reg [
    ⟨some 6, .assign (.const (.slice none 0 0)), none⟩])
  (.seq
  (.seq
  (.reg [
    ⟨some 36, .move (.tmp 0), none⟩,
    ⟨some 37, .indexAddr 42 (.tmp 36) (.const (.int .i64 0)), none⟩,
    ⟨some 38, .load 25 (.tmp 37), none⟩,
    ⟨some 39, .call { callee := .builtin .len, args := #[.tmp 38], argTypes := #[25] }, none⟩,
    ⟨some 40, .move (.const (.int .i64 0)), none⟩])
  (.block 2
  (.loop
    (.seq
    (.reg [
      ⟨some 41, .binOp .lss 3 (.tmp 40) (.tmp 39) 3, none⟩])
    (.seq
    (.cond (.tmp 41)
      .skip
      (.exit 2))
    (.seq
    (.block 3
    (.seq
    (.reg [
      ⟨some 42, .move (.tmp 40), none⟩,
      ⟨some 7, .assign (.tmp 42), none⟩])
    (.seq
    (.reg [
      ⟨some 8, .assign (.const (.slice none 0 0)), none⟩])
    (.seq
    (.seq
    (.reg [
      ⟨some 43, .move (.tmp 0), none⟩,
      ⟨some 44, .call { callee := .builtin .len, args := #[.tmp 43], argTypes := #[42] }, none⟩,
      ⟨some 45, .move (.const (.int .i64 0)), none⟩])
    (.block 4
    (.loop
      (.seq
      (.reg [
        ⟨some 46, .binOp .lss 3 (.tmp 45) (.tmp 44) 3, none⟩])
      (.seq
      (.cond (.tmp 46)
        .skip
        (.exit 4))
      (.seq
      (.block 5
      (.seq
      (.reg [
        ⟨some 47, .indexAddr 42 (.tmp 43) (.tmp 45), none⟩,
        ⟨some 48, .load 25 (.tmp 47), none⟩,
        ⟨some 10, .assign (.tmp 48), none⟩])
      (.reg [
        ⟨some 49, .move (.tmp 8), none⟩,
        ⟨some 50, .move (.tmp 10), none⟩,
        ⟨some 51, .move (.tmp 7), none⟩,
        ⟨some 52, .indexAddr 25 (.tmp 50) (.tmp 51), none⟩,
        ⟨some 53, .load 3 (.tmp 52), none⟩,
        ⟨some 54, .buildSlice 25 1 #[(0, .tmp 53)], none⟩,
        ⟨some 55, .call { callee := .builtin .append, args := #[.tmp 49, .tmp 54], argTypes := #[25, 25] }, none⟩,
        ⟨some 8, .assign (.tmp 55), none⟩])))
      (.reg [
        ⟨some 56, .binOp .add 3 (.tmp 45) (.const (.int .i64 1)) 3, none⟩,
        ⟨some 45, .move (.tmp 56), none⟩])))))))
    (.reg [
      ⟨some 57, .move (.tmp 6), none⟩,
      ⟨some 58, .move (.tmp 8), none⟩,
      ⟨some 59, .buildSlice 42 1 #[(0, .tmp 58)], none⟩,
      ⟨some 60, .call { callee := .builtin .append, args := #[.tmp 57, .tmp 59], argTypes := #[42, 42] }, none⟩,
      ⟨some 6, .assign (.tmp 60), none⟩])))))
    (.reg [
      ⟨some 61, .binOp .add 3 (.tmp 40) (.const (.int .i64 1)) 3, none⟩,
      ⟨some 40, .move (.tmp 61), none⟩])))))))
  (.seq
  (.reg [
    ⟨some 62, .move (.tmp 6), none⟩,
    ⟨some 2, .assign (.tmp 62), none⟩,
    ⟨some 3, .assign (.const (.bool true)), none⟩])
  .ret))))))
theorem hd29 : Try.f29.body.map dec = some c29 := by kernel_rfl
theorem e29 {R : AV → AH → Prop} {h : AH} (x0 : AV) (H : h.wf → AI Try.prog c29 (RetQ Try.prog [.tmp 2, .tmp 3] R) [x0, un, un, un, un, un, un, un, un, un, un, un, un, un, un, un, un, un, un, un, un, un, un, un, un, un, un, un, un, un, un, un, un, un, un, un, un, un, un, un, un, un, un, un, un, un, un, un, un, un, un, un, un, un, un, un, un, un, un, un, un, un, un] h) : AC Try.prog 29 [x0] h R :=
  AC_of' (rs := [.tmp 2, .tmp 3]) Try.func29 (by kernel_rfl) hd29 Try.ntmps29 rfl H

/-- laws.toIntS -/
def c15 : IC :=
  (.seq
  (.reg [
    ⟨some 2, .assign (.const (.slice none 0 0)), none⟩])
  (.seq
  (.reg [
    ⟨some 5, .move (.tmp 0), none⟩,
    ⟨some 6, .call { callee := .builtin .len, args := #[.tmp 5], argTypes := #[25] }, none⟩,
    ⟨some 7, .makeSlice 25 (.tmp 6) (.tmp 6), none⟩,
    ⟨some 3, .assign (.tmp 7), none⟩])
  (.seq
  (.seq
  (.reg [
    ⟨some 4, .assign (.const (.int .i64 0)), none⟩])
  (.block 0
  (.loop
    (.seq
    (.seq
    (.reg [
      ⟨some 8, .move (.tmp 4), none⟩,
      ⟨some 9, .move (.tmp 0), none⟩,
      ⟨some 10, .call { callee := .builtin .len, args := #[.tmp 9], argTypes := #[25] }, none⟩,
      ⟨some 11, .binOp .lss 3 (.tmp 8) (.tmp 10) 3, none⟩])
    (.cond (.tmp 11)
      .skip
      (.exit 0)))
    (.seq
    (.block 1
    (.reg [
      ⟨some 14, .move (.tmp 3), none⟩,
      ⟨some 15, .move (.tmp 4), none⟩,
      ⟨some 16, .move (.tmp 0), none⟩,
      ⟨some 17, .move (.tmp 4), none⟩,
      ⟨some 18, .indexAddr 25 (.tmp 16) (.tmp 17), none⟩,
      ⟨some 19, .load 3 (.tmp 18), none⟩,
      ⟨some 20, .indexAddr 25 (.tmp 14) (.tmp 15), none⟩,
      ⟨none, .store 3 (.tmp 20) (.tmp 19), none⟩]))
    (.reg [
      ⟨some 12, .move (.tmp 4), none⟩,
      ⟨some 13, .binOp .add 3 (.tmp 12) (.const (.int .i64 1)) 3, none⟩,
      ⟨some 4, .assign (.tmp 13), none⟩]))))))
  (.seq
  (.reg [
    ⟨some 21, .move (.tmp 3), none⟩,
    ⟨some 2, .assign (.tmp 21), none⟩])
  .ret))))
theorem hd15 : Try.f15.body.map dec = some c15 := by kernel_rfl
theorem e15 {R : AV → AH → Prop} {h : AH} (x0 : AV) (H : h.wf → AI Try.prog c15 (RetQ Try.prog [.tmp 2] R) [x0, un, un, un, un, un, un, un, un, un, un, un, un, un, un, un, un, un, un, un, un, un] h) : AC Try.prog 15 [x0] h R :=
  AC_of' (rs := [.tmp 2]) Try.func15 (by kernel_rfl) hd15 Try.ntmps15 rfl H

/-- laws.toIntSS -/
def c30 : IC :=
  (.seq
  (.reg [
    ⟨some 2, .assign (.const (.slice none 0 0)), none⟩])
  (.seq
  (.reg [
    ⟨some 5, .move (.tmp 0), none⟩,
    ⟨some 6, .call { callee := .builtin .len, args := #[.tmp 5], argTypes := #[42] }, none⟩,
    ⟨some 7, .makeSlice 42 (.tmp 6) (.tmp 6), none⟩,
    ⟨some 3, .assign (.tmp 7), none⟩])
  (.seq
  (.seq
  (.reg [
    ⟨some 4, .assign (.const (.int .i64 0)), none⟩])
  (.block 0
  (.loop
    (.seq
    (.seq
    (.reg [
      ⟨some 8, .move (.tmp 4), none⟩,
      ⟨some 9, .move (.tmp 0), none⟩,
      ⟨some 10, .call { callee := .builtin .len, args := #[.tmp 9], argTypes := #[42] }, none⟩,
      ⟨some 11, .binOp .lss 3 (.tmp 8) (.tmp 10) 3, none⟩])
    (.cond (.tmp 11)
      .skip
      (.exit 0)))
    (.seq
    (.block 1
    (.reg [
      ⟨some 14, .move (.tmp 3), none⟩,
      ⟨some 15, .move (.tmp 4), none⟩,
      ⟨some 16, .move (.tmp 0), none⟩,
      ⟨some 17, .move (.tmp 4), none⟩,
      ⟨some 18, .indexAddr 42 (.tmp 16) (.tmp 17), none⟩,
      ⟨some 19, .load 25 (.tmp 18), none⟩,
      ⟨some 20, .call { callee := .value (.func 15), args := #[.tmp 19], argTypes := #[25] }, none⟩,
      ⟨some 21, .indexAddr 42 (.tmp 14) (.tmp 15), none⟩,
      ⟨none, .store 25 (.tmp 21) (.tmp 20), none⟩]))
    (.reg [
      ⟨some 12, .move (.tmp 4), none⟩,
      ⟨some 13, .binOp .add 3 (.tmp 12) (.const (.int .i64 1)) 3, none⟩,
      ⟨some 4, .assign (.tmp 13), none⟩]))))))
  (.seq
  (.reg [
    ⟨some 22, .move (.tmp 3), none⟩,
    ⟨some 2, .assign (.tmp 22), none⟩])
  .ret))))
theorem hd30 : Try.f30.body.map dec = some c30 := by kernel_rfl
theorem e30 {R : AV → AH → Prop} {h : AH} (x0 : AV) (H : h.wf → AI Try.prog c30 (RetQ Try.prog [.tmp 2] R) [x0, un, un, un, un, un, un, un, un, un, un, un, un, un, un, un, un, un, un, un, un, un, un] h) : AC Try.prog 30 [x0] h R :=
  AC_of' (rs := [.tmp 2]) Try.func30 (by kernel_rfl) hd30 Try.ntmps30 rfl H

/-- impl.in -/
def c49 : IC :=
  (.seq
  (.reg [
    ⟨some 6, .assign (.const (.bool false)), none⟩])
  (.seq
  (.reg [
    ⟨some 7, .move (.tmp 0), none⟩,
    ⟨some 8, .move (.tmp 1), none⟩,
    ⟨some 9, .binOp .geq 3 (.tmp 7) (.tmp 8) 3, none⟩,
    ⟨some 10, .move (.tmp 9), none⟩,
    ⟨some 11, .move (.tmp 0), some (10, true)⟩,
    ⟨some 12, .move (.tmp 2), some (10, true)⟩,
    ⟨some 13, .binOp .leq 3 (.tmp 11) (.tmp 12) 3, some (10, true)⟩,
    ⟨some 14, .pick (.tmp 10) (.tmp 13) (.const (.bool false)), none⟩,
    ⟨some 6, .assign (.tmp 14), none⟩])
  .ret))
theorem hd49 : Try.f49.body.map dec = some c49 := by kernel_rfl
theorem e49 {R : AV → AH → Prop} {h : AH} (x0 x1 x2 : AV) (H : h.wf → AI Try.prog c49 (RetQ Try.prog [.tmp 6] R) [x0, x1, x2, un, un, un, un, un, un, un, un, un, un, un, un] h) : AC Try.prog 49 [x0, x1, x2] h R :=
  AC_of' (rs := [.tmp 6]) Try.func49 (by kernel_rfl) hd49 Try.ntmps49 rfl H

/-- slices.IndexFunc[[][]int,[]int] -/
def c85 : IC :=
  (.seq
  (.reg [
    ⟨some 4, .assign (.const (.int .i64 0)), none⟩])
  (.seq
  (.seq
  (.reg [
    ⟨some 6, .move (.tmp 0), none⟩,
    ⟨some 7, .call { callee := .builtin .len, args := #[.tmp 6], argTypes := #[42] }, none⟩,
    ⟨some 8, .move (.const (.int .i64 0)), none⟩])
  (.block 0
  (.loop
    (.seq
    (.reg [
      ⟨some 9, .binOp .lss 3 (.tmp 8) (.tmp 7) 3, none⟩])
    (.seq
    (.cond (.tmp 9)
      .skip
      (.exit 0))
    (.seq
    (.block 1
    (.seq
    (.reg [
      ⟨some 10, .move (.tmp 8), none⟩,
      ⟨some 5, .assign (.tmp 10), none⟩])
    (.seq
    (.reg [
      ⟨some 11, .move (.tmp 1), none⟩,
      ⟨some 12, .move (.tmp 0), none⟩,
      ⟨some 13, .move (.tmp 5), none⟩,
      ⟨some 14, .indexAddr 42 (.tmp 12) (.tmp 13), none⟩,
      ⟨some 15, .load 25 (.tmp 14), none⟩,
      ⟨some 16, .call { callee := .value (.tmp 11), args := #[.tmp 15], argTypes := #[25] }, none⟩])
    (.cond (.tmp 16)
      (.seq
      (.reg [
        ⟨some 17, .move (.tmp 5), none⟩,
        ⟨some 4, .assign (.tmp 17), none⟩])
      .ret)
      .skip))))
    (.reg [
      ⟨some 18, .binOp .add 3 (.tmp 8) (.const (.int .i64 1)) 3, none⟩,
      ⟨some 8, .move (.tmp 18), none⟩])))))))
  (.seq
  (.reg [
    ⟨some 4, .assign (.const (.int .i64 (-1))), none⟩])
  .ret)))
theorem hd85 : Try.f85.body.map dec = some c85 := by kernel_rfl
theorem e85 {R : AV → AH → Prop} {h : AH} (x0 x1 : AV) (H : h.wf → AI Try.prog c85 (RetQ Try.prog [.tmp 4] R) [x0, x1, un, un, un, un, un, un, un, un, un, un, un, un, un, un, un, un, un] h) : AC Try.prog 85 [x0, x1] h R :=
  AC_of' (rs := [.tmp 4]) Try.func85 (by kernel_rfl) hd85 Try.ntmps85 rfl H

/-- slices.ContainsFunc[[][]int,[]int] -/
def c66 : IC :=
  (.seq
  (.reg [
    ⟨some 4, .assign (.const (.bool false)), none⟩])
  (.seq
  (.reg [
    ⟨some 5, .move (.tmp 0), none⟩,
    ⟨some 6, .move (.tmp 1), none⟩,
    ⟨some 7, .call { callee := .value (.func 85), args := #[.tmp 5, .tmp 6], argTypes := #[42, 80] }, none⟩,
    ⟨some 8, .binOp .geq 3 (.tmp 7) (.const (.int .i64 0)) 3, none⟩,
    ⟨some 4, .assign (.tmp 8), none⟩])
  .ret))
theorem hd66 : Try.f66.body.map dec = some c66 := by kernel_rfl
theorem e66 {R : AV → AH → Prop} {h : AH} (x0 x1 : AV) (H : h.wf → AI Try.prog c66 (RetQ Try.prog [.tmp 4] R) [x0, x1, un, un, un, un, un, un, un] h) : AC Try.prog 66 [x0, x1] h R :=
  AC_of' (rs := [.tmp 4]) Try.func66 (by kernel_rfl) hd66 Try.ntmps66 rfl H

/-- impl.TransposeRows$1 -/
def c67 : IC :=
  (.seq
  (.reg [
    ⟨some 3, .assign (.const (.bool false)), none⟩])
  (.seq
  (.reg [
    ⟨some 4, .move (.tmp 0), none⟩,
    ⟨some 5, .call { callee := .builtin .len, args := #[.tmp 4], argTypes := #[25] }, none⟩,
    ⟨some 6, .load 42 (.tmp 1), none⟩,
    ⟨some 7, .indexAddr 42 (.tmp 6) (.const (.int .i64 0)), none⟩,
    ⟨some 8, .load 25 (.tmp 7), none⟩,
    ⟨some 9, .call { callee := .builtin .len, args := #[.tmp 8], argTypes := #[25] }, none⟩,
    ⟨some 10, .binOp .neq 3 (.tmp 5) (.tmp 9) 3, none⟩,
    ⟨some 3, .assign (.tmp 10), none⟩])
  .ret))
theorem hd67 : Try.f67.body.map dec = some c67 := by kernel_rfl
theorem e67 {R : AV → AH → Prop} {h : AH} (x0 x1 : AV) (H : h.wf → AI Try.prog c67 (RetQ Try.prog [.tmp 3] R) [x0, x1, un, un, un, un, un, un, un, un, un] h) : AC Try.prog 67 [x0, x1] h R :=
  AC_of' (rs := [.tmp 3]) Try.func67 (by kernel_rfl) hd67 Try.ntmps67 rfl H

/-- impl.TransposeRows -/
def c31 : IC :=
  (.seq
  (.reg [
    ⟨some 1, .box 42 (.tmp 0), none⟩,
    ⟨some 2, .assign (.const (.slice none 0 0)), none⟩,
    ⟨some 3, .assign (.const (.bool false)), none⟩])
  (.seq
  (.seq
  (.reg [
    ⟨some 9, .load 42 (.tmp 1), none⟩,
    ⟨some 10, .call { callee := .builtin .len, args := #[.tmp 9], argTypes := #[42] }, none⟩,
    ⟨some 11, .call { callee := .value (.func 49), args := #[.tmp 10, .const (.int .i64 1), .const (.int .i64 40)], argTypes := #[3, 3, 3] }, none⟩,
    ⟨some 12, .unOp .not 4 (.tmp 11), none⟩,
    ⟨some 13, .move (.tmp 12), none⟩,
    ⟨some 14, .load 42 (.tmp 1), some (13, false)⟩,
    ⟨some 15, .indexAddr 42 (.tmp 14) (.const (.int .i64 0)), some (13, false)⟩,
    ⟨some 16, .load 25 (.tmp 15), some (13, false)⟩,
    ⟨some 17, .call { callee := .builtin .len, args := #[.tmp 16], argTypes := #[25] }, some (13, false)⟩,
    ⟨some 18, .binOp .gtr 3 (.tmp 17) (.const (.int .i64 40)) 3, some (13, false)⟩,
    ⟨some 19, .pick (.tmp 13) (.const (.bool true)) (.tmp 18), none⟩,
    ⟨some 20, .move (.tmp 19), none⟩,
    ⟨some 21, .load 42 (.tmp 1), some (20, false)⟩,
    ⟨some 22, .makeFunc (.func 67) #[] #[.tmp 1], some (20, false)⟩,
    ⟨some 23, .call { callee := .value (.func 66), args := #[.tmp 21, .tmp 22], argTypes := #[42, 80] }, some (20, false)⟩,
    ⟨some 24, .pick (.tmp 20) (.const (.bool true)) (.tmp 23), none⟩])
  (.cond (.tmp 24)
    (.seq
    (.reg [
      ⟨some 2, .assign (.const (.slice none 0 0)), none⟩,
      ⟨some 3, .assign (.const (.bool false)), none⟩])
    .ret)
    .skip))
  (.seq
  (.reg [
    ⟨some 25, .buildSlice 42 0 #[], none⟩,
    ⟨some 4, .assign (.tmp 25), none⟩])
  (.seq
  (.seq
  (.reg [
    ⟨some 26, .load 42 (.tmp 1), none⟩,
    ⟨some 27, .indexAddr 42 (.tmp 26) (.const (.int .i64 0)), none⟩,
    ⟨some 28, .load 25 (.tmp 27), none⟩,
    ⟨some 29, .call { callee := .builtin .len, args := #[.tmp 28], argTypes := #[25] }, none⟩,
    ⟨some 30, .move (.const (.int .i64 0)), none⟩])
  (.block 0
  (.loop
    (.seq
    (.reg [
      ⟨some 31, .binOp .lss 3 (.tmp 30) (.tmp 29) 3, none⟩])
    (.seq
    (.cond (.tmp 31)
      .skip
      (.exit 0))
    (.seq
    (.block 1
    (.seq
    (.reg [
      ⟨some 32, .move (.tmp 30), none⟩,
      ⟨some 5, .assign (.tmp 32), none⟩])
    (.seq
    (.reg [
      ⟨some 33, .buildSlice 25 0 #[], none⟩,
      ⟨some 6, .assign (.tmp 33), none⟩])
    (.seq
    (.seq
    (.reg [
      ⟨some 34, .load 42 (.tmp 1), none⟩,
      ⟨some 35, .call { callee := .builtin .len, args := #[.tmp 34], argTypes := #[42] }, none⟩,
      ⟨some 36, .move (.const (.int .i64 0)), none⟩])
    (.block 2
    (.loop
      (.seq
      (.reg [
        ⟨some 37, .binOp .lss 3 (.tmp 36) (.tmp 35) 3, none⟩])
      (.seq
      (.cond (.tmp 37)
        .skip
        (.exit 2))
      (.seq
      (.block 3
      (.seq
      (.reg [
        ⟨some 38, .indexAddr 42 (.tmp 34) (.tmp 36), none⟩,
        ⟨some 39, .load 25 (.tmp 38), none⟩,
        ⟨some 8, .assign (.tmp 39), none⟩])
      (.reg [
        ⟨some 40, .move (.tmp 6), none⟩,
        ⟨some 41, .move (.tmp 8), none⟩,
        ⟨some 42, .move (.tmp 5), none⟩,
        ⟨some 43, .indexAddr 25 (.tmp 41) (.tmp 42), none⟩,
        ⟨some 44, .load 3 (.tmp 43), none⟩,
        ⟨some 45, .buildSlice 25 1 #[(0, .tmp 44)], none⟩,
        ⟨some 46, .call { callee := .builtin .append, args := #[.tmp 40, .tmp 45], argTypes := #[25, 25] }, none⟩,
        ⟨some 6, .assign (.tmp 46), none⟩])))
      (.reg [
        ⟨some 47, .binOp .add 3 (.tmp 36) (.const (.int .i64 1)) 3, none⟩,
        ⟨some 36, .move (.tmp 47), none⟩])))))))
    (.reg [
      ⟨some 48, .move (.tmp 4), none⟩,
      ⟨some 49, .move (.tmp 6), none⟩,
      ⟨some 50, .buildSlice 42 1 #[(0, .tmp 49)], none⟩,
      ⟨some 51, .call { callee := .builtin .append, args := #[.tmp 48, .tmp 50], argTypes := #[42, 42] }, none⟩,
      ⟨some 4, .assign (.tmp 51), none⟩])))))
    (.reg [
      ⟨some 52, .binOp .add 3 (.tmp 30) (.const (.int .i64 1)) 3, none⟩,
      ⟨some 30, .move (.tmp 52), none⟩])))))))
  (.seq
  (.reg [
    ⟨some 53, .move (.tmp 4), none⟩,
    ⟨some 2, .assign (.tmp 53), none⟩,
    ⟨some 3, .assign (.const (.bool true)), none⟩])
  .ret)))))
theorem hd31 : Try.f31.body.map dec = some c31 := by kernel_rfl
theorem e31 {R : AV → AH → Prop} {h : AH} (x0 : AV) (H : h.wf → AI Try.prog c31 (RetQ Try.prog [.tmp 2, .tmp 3] R) [x0, un, un, un, un, un, un, un, un, un, un, un, un, un, un, un, un, un, un, un, un, un, un, un, un, un, un, un, un, un, un, un, un, un, un, un, un, un, un, un, un, un, un, un, un, un, un, un, un, un, un, un, un, un] h) : AC Try.prog 31 [x0] h R :=
  AC_of' (rs := [.tmp 2, .tmp 3]) Try.func31 (by kernel_rfl) hd31 Try.ntmps31 rfl H

noncomputable def rg17_0 : Array Oper := rawAt Try.f17 0
/-- laws.eqIntS -/
noncomputable def c17 : IC :=
  (.seq
  (.reg [
    ⟨some 4, .assign (.const (.bool false)), none⟩])
  (.seq
  (.seq
  (.reg [
    ⟨some 6, .move (.tmp 0), none⟩,
    ⟨some 7, .call { callee := .builtin .len, args := #[.tmp 6], argTypes := #[25] }, none⟩,
    ⟨some 8, .move (.tmp 1), none⟩,
    ⟨some 9, .call { callee := .builtin .len, args := #[.tmp 8], argTypes := #[25] }, none⟩,
    ⟨some 10, .binOp .neq 3 (.tmp 7) (.tmp 9) 3, none⟩])
  (.cond (.tmp 10)
    (.seq
    (.reg [
      ⟨some 4, .assign (.const (.bool false)), none⟩])
    .ret)
    .skip))
  (.seq
  (.seq
  (.reg [
    ⟨some 5, .assign (.const (.int .i64 0)), none⟩])
  (.block 0
  (.loop
    (.seq
    (.seq
    (.reg [
      ⟨some 11, .move (.tmp 5), none⟩,
      ⟨some 12, .move (.tmp 0), none⟩,
      ⟨some 13, .call { callee := .builtin .len, args := #[.tmp 12], argTypes := #[25] }, none⟩,
      ⟨some 14, .binOp .lss 3 (.tmp 11) (.tmp 13) 3, none⟩])
    (.cond (.tmp 14)
      .skip
      (.exit 0)))
    (.seq
    (.block 1
    (.seq
    (.raw (.region 6 rg17_0 true))
    (.cond (.tmp 25)
      (.seq
      (.reg [
        ⟨some 4, .assign (.const (.bool false)), none⟩])
      .ret)
      .skip)))
    (.reg [
      ⟨some 15, .move (.tmp 5), none⟩,
      ⟨some 16, .binOp .add 3 (.tmp 15) (.const (.int .i64 1)) 3, none⟩,
      ⟨some 5, .assign (.tmp 16), none⟩]))))))
  (.seq
  (.reg [
    ⟨some 4, .assign (.const (.bool true)), none⟩])
  .ret))))
theorem hd17 : Try.f17.body.map dec = some c17 := by kernel_rfl
theorem e17 {R : AV → AH → Prop} {h : AH} (x0 x1 : AV) (H : h.wf → AI Try.prog c17 (RetQ Try.prog [.tmp 4] R) [x0, x1, un, un, un, un, un, un, un, un, un, un, un, un, un, un, un, un, un, un, un, un, un, un, un, un] h) : AC Try.prog 17 [x0, x1] h R :=
  AC_of' (rs := [.tmp 4]) Try.func17 (by kernel_rfl) hd17 Try.ntmps17 rfl H
theorem dr17_0 (m : Nat) {Q : Exit → List AV → AH → Prop} {a : List AV} {h : AH} {id : Nat} (H : AX Try.prog m h [(⟨some 17, .move (.tmp 0), none⟩, true),
  (⟨some 18, .move (.tmp 5), none⟩, true),
  (⟨some 19, .indexAddr 25 (.tmp 17) (.tmp 18), none⟩, true),
  (⟨some 20, .load 3 (.tmp 19), none⟩, true),
  (⟨some 21, .move (.tmp 1), none⟩, true),
  (⟨some 22, .move (.tmp 5), none⟩, true),
  (⟨some 23, .indexAddr 25 (.tmp 21) (.tmp 22), none⟩, true),
  (⟨some 24, .load 3 (.tmp 23), none⟩, true),
  (⟨some 25, .binOp .neq 3 (.tmp 20) (.tmp 24) 3, none⟩, true)] (fun a' h' => Q .normal a' h') a h) : AI Try.prog (.raw (.region id rg17_0 true)) Q a h :=
  AI_draw [(0, true), (1, true), (2, true), (3, true), (4, true), (5, true), (6, true), (7, true), (8, true)] m (by kernel_rfl) (by kernel_rfl) (by kernel_rfl) H

noncomputable def rg32_0 : Array Oper := rawAt Try.f32 0
/-- laws.eqIntSS -/
noncomputable def c32 : IC :=
  (.seq
  (.reg [
    ⟨some 4, .assign (.const (.bool false)), none⟩])
  (.seq
  (.seq
  (.reg [
    ⟨some 6, .move (.tmp 0), none⟩,
    ⟨some 7, .call { callee := .builtin .len, args := #[.tmp 6], argTypes := #[42] }, none⟩,
    ⟨some 8, .move (.tmp 1), none⟩,
    ⟨some 9, .call { callee := .builtin .len, args := #[.tmp 8], argTypes := #[42] }, none⟩,
    ⟨some 10, .binOp .neq 3 (.tmp 7) (.tmp 9) 3, none⟩])
  (.cond (.tmp 10)
    (.seq
    (.reg [
      ⟨some 4, .assign (.const (.bool false)), none⟩])
    .ret)
    .skip))
  (.seq
  (.seq
  (.reg [
    ⟨some 5, .assign (.const (.int .i64 0)), none⟩])
  (.block 0
  (.loop
    (.seq
    (.seq
    (.reg [
      ⟨some 11, .move (.tmp 5), none⟩,
      ⟨some 12, .move (.tmp 0), none⟩,
      ⟨some 13, .call { callee := .builtin .len, args := #[.tmp 12], argTypes := #[42] }, none⟩,
      ⟨some 14, .binOp .lss 3 (.tmp 11) (.tmp 13) 3, none⟩])
    (.cond (.tmp 14)
      .skip
      (.exit 0)))
    (.seq
    (.block 1
    (.seq
    (.raw (.region 6 rg32_0 true))
    (.cond (.tmp 26)
      (.seq
      (.reg [
        ⟨some 4, .assign (.const (.bool false)), none⟩])
      .ret)
      .skip)))
    (.reg [
      ⟨some 15, .move (.tmp 5), none⟩,
      ⟨some 16, .binOp .add 3 (.tmp 15) (.const (.int .i64 1)) 3, none⟩,
      ⟨some 5, .assign (.tmp 16), none⟩]))))))
  (.seq
  (.reg [
    ⟨some 4, .assign (.const (.bool true)), none⟩])
  .ret))))
theorem hd32 : Try.f32.body.map dec = some c32 := by kernel_rfl
theorem e32 {R : AV → AH → Prop} {h : AH} (x0 x1 : AV) (H : h.wf → AI Try.prog c32 (RetQ Try.prog [.tmp 4] R) [x0, x1, un, un, un, un, un, un, un, un, un, un, un, un, un, un, un, un, un, un, un, un, un, un, un, un, un] h) : AC Try.prog 32 [x0, x1] h R :=
  AC_of' (rs := [.tmp 4]) Try.func32 (by kernel_rfl) hd32 Try.ntmps32 rfl H
theorem dr32_0 (m : Nat) {Q : Exit → List AV → AH → Prop} {a : List AV} {h : AH} {id : Nat} (H : AX Try.prog m h [(⟨some 17, .move (.tmp 0), none⟩, true),
  (⟨some 18, .move (.tmp 5), none⟩, true),
  (⟨some 19, .indexAddr 42 (.tmp 17) (.tmp 18), none⟩, true),
  (⟨some 20, .load 25 (.tmp 19), none⟩, true),
  (⟨some 21, .move (.tmp 1), none⟩, true),
  (⟨some 22, .move (.tmp 5), none⟩, true),
  (⟨some 23, .indexAddr 42 (.tmp 21) (.tmp 22), none⟩, true),
  (⟨some 24, .load 25 (.tmp 23), none⟩, true),
  (⟨some 25, .call { callee := .value (.func 17), args := #[.tmp 20, .tmp 24], argTypes := #[25, 25] }, none⟩, false),
  (⟨some 26, .unOp .not 4 (.tmp 25), none⟩, true)] (fun a' h' => Q .normal a' h') a h) : AI Try.prog (.raw (.region id rg32_0 true)) Q a h :=
  AI_draw [(0, true), (1, true), (2, true), (3, true), (4, true), (5, true), (6, true), (7, true), (8, false), (9, true)] m (by kernel_rfl) (by kernel_rfl) (by kernel_rfl) H

/-- laws.markIntS -/
def c68 : IC :=
  (.seq
  (.reg [
    ⟨some 4, .assign (.const (.int .i64 0)), none⟩])
  (.seq
  (.seq
  (.reg [
    ⟨some 5, .assign (.const (.int .i64 0)), none⟩])
  (.block 0
  (.loop
    (.seq
    (.seq
    (.reg [
      ⟨some 6, .move (.tmp 5), none⟩,
      ⟨some 7, .move (.tmp 0), none⟩,
      ⟨some 8, .call { callee := .builtin .len, args := #[.tmp 7], argTypes := #[25] }, none⟩,
      ⟨some 9, .binOp .lss 3 (.tmp 6) (.tmp 8) 3, none⟩])
    (.cond (.tmp 9)
      .skip
      (.exit 0)))
    (.seq
    (.block 1
    (.seq
    (.reg [
      ⟨some 12, .move (.tmp 0), none⟩,
      ⟨some 13, .move (.tmp 5), none⟩,
      ⟨some 14, .move (.tmp 1), none⟩,
      ⟨some 15, .indexAddr 25 (.tmp 12) (.tmp 13), none⟩,
      ⟨none, .store 3 (.tmp 15) (.tmp 14), none⟩])
    (.reg [
      ⟨some 16, .move (.tmp 1), none⟩,
      ⟨some 17, .binOp .add 3 (.tmp 16) (.const (.int .i64 1)) 3, none⟩,
      ⟨some 1, .assign (.tmp 17), none⟩])))
    (.reg [
      ⟨some 10, .move (.tmp 5), none⟩,
      ⟨some 11, .binOp .add 3 (.tmp 10) (.const (.int .i64 1)) 3, none⟩,
      ⟨some 5, .assign (.tmp 11), none⟩]))))))
  (.seq
  (.reg [
    ⟨some 18, .move (.tmp 1), none⟩,
    ⟨some 4, .assign (.tmp 18), none⟩])
  .ret)))
theorem hd68 : Try.f68.body.map dec = some c68 := by kernel_rfl
theorem e68 {R : AV → AH → Prop} {h : AH} (x0 x1 : AV) (H : h.wf → AI Try.prog c68 (RetQ Try.prog [.tmp 4] R) [x0, x1, un, un, un, un, un, un, un, un, un, un, un, un, un, un, un, un, un] h) : AC Try.prog 68 [x0, x1] h R :=
  AC_of' (rs := [.tmp 4]) Try.func68 (by kernel_rfl) hd68 Try.ntmps68 rfl H

/-- laws.markIntSS -/
def c33 : IC :=
  (.seq
  (.reg [
    ⟨some 4, .assign (.const (.int .i64 0)), none⟩])
  (.seq
  (.seq
  (.reg [
    ⟨some 5, .assign (.const (.int .i64 0)), none⟩])
  (.block 0
  (.loop
    (.seq
    (.seq
    (.reg [
      ⟨some 6, .move (.tmp 5), none⟩,
      ⟨some 7, .move (.tmp 0), none⟩,
      ⟨some 8, .call { callee := .builtin .len, args := #[.tmp 7], argTypes := #[42] }, none⟩,
      ⟨some 9, .binOp .lss 3 (.tmp 6) (.tmp 8) 3, none⟩])
    (.cond (.tmp 9)
      .skip
      (.exit 0)))
    (.seq
    (.block 1
    (.reg [
      ⟨some 12, .move (.tmp 0), none⟩,
      ⟨some 13, .move (.tmp 5), none⟩,
      ⟨some 14, .indexAddr 42 (.tmp 12) (.tmp 13), none⟩,
      ⟨some 15, .load 25 (.tmp 14), none⟩,
      ⟨some 16, .move (.tmp 1), none⟩,
      ⟨some 17, .call { callee := .value (.func 68), args := #[.tmp 15, .tmp 16], argTypes := #[25, 3] }, none⟩,
      ⟨some 1, .assign (.tmp 17), none⟩]))
    (.reg [
      ⟨some 10, .move (.tmp 5), none⟩,
      ⟨some 11, .binOp .add 3 (.tmp 10) (.const (.int .i64 1)) 3, none⟩,
      ⟨some 5, .assign (.tmp 11), none⟩]))))))
  (.seq
  (.reg [
    ⟨some 18, .move (.tmp 1), none⟩,
    ⟨some 4, .assign (.tmp 18), none⟩])
  .ret)))
theorem hd33 : Try.f33.body.map dec = some c33 := by kernel_rfl
theorem e33 {R : AV → AH → Prop} {h : AH} (x0 x1 : AV) (H : h.wf → AI Try.prog c33 (RetQ Try.prog [.tmp 4] R) [x0, x1, un, un, un, un, un, un, un, un, un, un, un, un, un, un, un, un, un] h) : AC Try.prog 33 [x0, x1] h R :=
  AC_of' (rs := [.tmp 4]) Try.func33 (by kernel_rfl) hd33 Try.ntmps33 rfl H

/-- laws.heldIntS -/
def c69 : IC :=
  (.seq
  (.reg [
    ⟨some 4, .assign (.const (.int .i64 0)), none⟩])
  (.seq
  (.seq
  (.reg [
    ⟨some 5, .assign (.const (.int .i64 0)), none⟩])
  (.block 0
  (.loop
    (.seq
    (.seq
    (.reg [
      ⟨some 6, .move (.tmp 5), none⟩,
      ⟨some 7, .move (.tmp 0), none⟩,
      ⟨some 8, .call { callee := .builtin .len, args := #[.tmp 7], argTypes := #[25] }, none⟩,
      ⟨some 9, .binOp .lss 3 (.tmp 6) (.tmp 8) 3, none⟩])
    (.cond (.tmp 9)
      .skip
      (.exit 0)))
    (.seq
    (.block 1
    (.seq
    (.seq
    (.reg [
      ⟨some 12, .move (.tmp 0), none⟩,
      ⟨some 13, .move (.tmp 5), none⟩,
      ⟨some 14, .indexAddr 25 (.tmp 12) (.tmp 13), none⟩,
      ⟨some 15, .load 3 (.tmp 14), none⟩,
      ⟨some 16, .move (.tmp 1), none⟩,
      ⟨some 17, .binOp .neq 3 (.tmp 15) (.tmp 16) 3, none⟩])
    (.cond (.tmp 17)
      (.seq
      (.reg [
        ⟨some 4, .assign (.const (.int .i64 (-1))), none⟩])
      .ret)
      .skip))
    (.reg [
      ⟨some 18, .move (.tmp 1), none⟩,
      ⟨some 19, .binOp .add 3 (.tmp 18) (.const (.int .i64 1)) 3, none⟩,
      ⟨some 1, .assign (.tmp 19), none⟩])))
    (.reg [
      ⟨some 10, .move (.tmp 5), none⟩,
      ⟨some 11, .binOp .add 3 (.tmp 10) (.const (.int .i64 1)) 3, none⟩,
      ⟨some 5, .assign (.tmp 11), none⟩]))))))
  (.seq
  (.reg [
    ⟨some 20, .move (.tmp 1), none⟩,
    ⟨some 4, .assign (.tmp 20), none⟩])
  .ret)))
theorem hd69 : Try.f69.body.map dec = some c69 := by kernel_rfl
theorem e69 {R : AV → AH → Prop} {h : AH} (x0 x1 : AV) (H : h.wf → AI Try.prog c69 (RetQ Try.prog [.tmp 4] R) [x0, x1, un, un, un, un, un, un, un, un, un, un, un, un, un, un, un, un, un, un, un] h) : AC Try.prog 69 [x0, x1] h R :=
  AC_of' (rs := [.tmp 4]) Try.func69 (by kernel_rfl) hd69 Try.ntmps69 rfl H

/-- laws.heldIntSS -/
def c34 : IC :=
  (.seq
  (.reg [
    ⟨some 4, .assign (.const (.int .i64 0)), none⟩])
  (.seq
  (.seq
  (.reg [
    ⟨some 5, .assign (.const (.int .i64 0)), none⟩])
  (.block 0
  (.loop
    (.seq
    (.seq
    (.reg [
      ⟨some 6, .move (.tmp 5), none⟩,
      ⟨some 7, .move (.tmp 0), none⟩,
      ⟨some 8, .call { callee := .builtin .len, args := #[.tmp 7], argTypes := #[42] }, none⟩,
      ⟨some 9, .binOp .lss 3 (.tmp 6) (.tmp 8) 3, none⟩])
    (.cond (.tmp 9)
      .skip
      (.exit 0)))
    (.seq
    (.block 1
    (.seq
    (.reg [
      ⟨some 12, .move (.tmp 0), none⟩,
      ⟨some 13, .move (.tmp 5), none⟩,
      ⟨some 14, .indexAddr 42 (.tmp 12) (.tmp 13), none⟩,
      ⟨some 15, .load 25 (.tmp 14), none⟩,
      ⟨some 16, .move (.tmp 1), none⟩,
      ⟨some 17, .call { callee := .value (.func 69), args := #[.tmp 15, .tmp 16], argTypes := #[25, 3] }, none⟩,
      ⟨some 1, .assign (.tmp 17), none⟩])
    (.seq
    (.reg [
      ⟨some 18, .move (.tmp 1), none⟩,
      ⟨some 19, .binOp .lss 3 (.tmp 18) (.const (.int .i64 0)) 3, none⟩])
    (.cond (.tmp 19)
      (.seq
      (.reg [
        ⟨some 4, .assign (.const (.int .i64 (-1))), none⟩])
      .ret)
      .skip))))
    (.reg [
      ⟨some 10, .move (.tmp 5), none⟩,
      ⟨some 11, .binOp .add 3 (.tmp 10) (.const (.int .i64 1)) 3, none⟩,
      ⟨some 5, .assign (.tmp 11), none⟩]))))))
  (.seq
  (.reg [
    ⟨some 20, .move (.tmp 1), none⟩,
    ⟨some 4, .assign (.tmp 20), none⟩])
  .ret)))
theorem hd34 : Try.f34.body.map dec = some c34 := by kernel_rfl
theorem e34 {R : AV → AH → Prop} {h : AH} (x0 x1 : AV) (H : h.wf → AI Try.prog c34 (RetQ Try.prog [.tmp 4] R) [x0, x1, un, un, un, un, un, un, un, un, un, un, un, un, un, un, un, un, un, un, un] h) : AC Try.prog 34 [x0, x1] h R :=
  AC_of' (rs := [.tmp 4]) Try.func34 (by kernel_rfl) hd34 Try.ntmps34 rfl H

/-- laws.FnExactTransposeRows -/
def c9 : IC :=
  (.seq
  (.reg [
    ⟨some 2, .assign (.const (.bool false)), none⟩])
  (.seq
  (.reg [
    ⟨some 3, .assign (.const (.int .i64 1048576)), none⟩])
  (.seq
  (.reg [
    ⟨some 14, .move (.tmp 0), none⟩,
    ⟨some 15, .move (.tmp 3), none⟩,
    ⟨some 16, .call { callee := .value (.func 28), args := #[.tmp 14, .tmp 15], argTypes := #[42, 3] }, none⟩,
    ⟨some 3, .assign (.tmp 16), none⟩])
  (.seq
  (.seq
  (.reg [
    ⟨some 17, .move (.tmp 3), none⟩,
    ⟨some 18, .binOp .lss 3 (.tmp 17) (.const (.int .i64 0)) 3, none⟩])
  (.cond (.tmp 18)
    (.seq
    (.reg [
      ⟨some 2, .assign (.const (.bool true)), none⟩])
    .ret)
    .skip))
  (.seq
  (.reg [
    ⟨some 20, .move (.tmp 0), none⟩,
    ⟨some 21, .call { callee := .value (.func 30), args := #[.tmp 20], argTypes := #[42] }, none⟩,
    ⟨some 22, .call { callee := .value (.func 29), args := #[.tmp 21], argTypes := #[42] }, none⟩,
    ⟨some 19, .move (.tmp 22), none⟩,
    ⟨some 23, .extract (.tmp 19) 0, none⟩,
    ⟨some 24, .extract (.tmp 19) 1, none⟩,
    ⟨some 4, .assign (.tmp 23), none⟩,
    ⟨some 5, .assign (.tmp 24), none⟩])
  (.seq
  (.reg [
    ⟨some 25, .move (.tmp 0), none⟩,
    ⟨some 26, .call { callee := .value (.func 30), args := #[.tmp 25], argTypes := #[42] }, none⟩,
    ⟨some 6, .assign (.tmp 26), none⟩])
  (.seq
  (.reg [
    ⟨some 28, .move (.tmp 6), none⟩,
    ⟨some 29, .call { callee := .value (.func 31), args := #[.tmp 28], argTypes := #[42] }, none⟩,
    ⟨some 27, .move (.tmp 29), none⟩,
    ⟨some 30, .extract (.tmp 27) 0, none⟩,
    ⟨some 31, .extract (.tmp 27) 1, none⟩,
    ⟨some 7, .assign (.tmp 30), none⟩,
    ⟨some 8, .assign (.tmp 31), none⟩])
  (.seq
  (.seq
  (.reg [
    ⟨some 32, .move (.tmp 7), none⟩,
    ⟨some 33, .move (.tmp 4), none⟩,
    ⟨some 34, .call { callee := .value (.func 32), args := #[.tmp 32, .tmp 33], argTypes := #[42, 42] }, none⟩,
    ⟨some 35, .unOp .not 4 (.tmp 34), none⟩,
    ⟨some 36, .move (.tmp 35), none⟩,
    ⟨some 37, .move (.tmp 8), some (36, false)⟩,
    ⟨some 38, .move (.tmp 5), some (36, false)⟩,
    ⟨some 39, .binOp .neq 4 (.tmp 37) (.tmp 38) 4, some (36, false)⟩,
    ⟨some 40, .pick (.tmp 36) (.const (.bool true)) (.tmp 39), none⟩])
  (.cond (.tmp 40)
    (.seq
    (.reg [
      ⟨some 2, .assign (.const (.bool false)), none⟩])
    .ret)
    .skip))
  (.seq
  (.seq
  (.reg [
    ⟨some 41, .move (.tmp 6), none⟩,
    ⟨some 42, .move (.tmp 0), none⟩,
    ⟨some 43, .call { callee := .value (.func 30), args := #[.tmp 42], argTypes := #[42] }, none⟩,
    ⟨some 44, .call { callee := .value (.func 32), args := #[.tmp 41, .tmp 43], argTypes := #[42, 42] }, none⟩,
    ⟨some 45, .unOp .not 4 (.tmp 44), none⟩])
  (.cond (.tmp 45)
    (.seq
    (.reg [
      ⟨some 2, .assign (.const (.bool false)), none⟩])
    .ret)
    .skip))
  (.seq
  (.reg [
    ⟨some 9, .assign (.const (.int .i64 1)), none⟩])
  (.seq
  (.reg [
    ⟨some 46, .move (.tmp 6), none⟩,
    ⟨some 47, .move (.tmp 9), none⟩,
    ⟨some 48, .call { callee := .value (.func 33), args := #[.tmp 46, .tmp 47], argTypes := #[42, 3] }, none⟩,
    ⟨some 9, .assign (.tmp 48), none⟩])
  (.seq
  (.seq
  (.reg [
    ⟨some 49, .move (.tmp 9), none⟩,
    ⟨some 50, .binOp .lss 3 (.tmp 49) (.const (.int .i64 0)) 3, none⟩,
    ⟨some 51, .move (.tmp 50), none⟩,
    ⟨some 52, .move (.tmp 7), some (51, false)⟩,
    ⟨some 53, .move (.tmp 4), some (51, false)⟩,
    ⟨some 54, .call { callee := .value (.func 32), args := #[.tmp 52, .tmp 53], argTypes := #[42, 42] }, some (51, false)⟩,
    ⟨some 55, .unOp .not 4 (.tmp 54), some (51, false)⟩,
    ⟨some 56, .pick (.tmp 51) (.const (.bool true)) (.tmp 55), none⟩,
    ⟨some 57, .move (.tmp 56), none⟩,
    ⟨some 58, .move (.tmp 8), some (57, false)⟩,
    ⟨some 59, .move (.tmp 5), some (57, false)⟩,
    ⟨some 60, .binOp .neq 4 (.tmp 58) (.tmp 59) 4, some (57, false)⟩,
    ⟨some 61, .pick (.tmp 57) (.const (.bool true)) (.tmp 60), none⟩])
  (.cond (.tmp 61)
    (.seq
    (.reg [
      ⟨some 2, .assign (.const (.bool false)), none⟩])
    .ret)
    .skip))
  (.seq
  (.reg [
    ⟨some 10, .assign (.const (.int .i64 1)), none⟩])
  (.seq
  (.reg [
    ⟨some 62, .move (.tmp 7), none⟩,
    ⟨some 63, .move (.tmp 10), none⟩,
    ⟨some 64, .call { callee := .value (.func 33), args := #[.tmp 62, .tmp 63], argTypes := #[42, 3] }, none⟩,
    ⟨some 10, .assign (.tmp 64), none⟩])
  (.seq
  (.reg [
    ⟨some 11, .assign (.const (.int .i64 1)), none⟩])
  (.seq
  (.reg [
    ⟨some 65, .move (.tmp 7), none⟩,
    ⟨some 66, .move (.tmp 11), none⟩,
    ⟨some 67, .call { callee := .value (.func 34), args := #[.tmp 65, .tmp 66], argTypes := #[42, 3] }, none⟩,
    ⟨some 11, .assign (.tmp 67), none⟩])
  (.seq
  (.seq
  (.reg [
    ⟨some 68, .move (.tmp 11), none⟩,
    ⟨some 69, .binOp .lss 3 (.tmp 68) (.const (.int .i64 0)) 3, none⟩])
  (.cond (.tmp 69)
    (.seq
    (.reg [
      ⟨some 2, .assign (.const (.bool false)), none⟩])
    .ret)
    .skip))
  (.seq
  (.seq
  (.reg [
    ⟨some 70, .move (.tmp 11), none⟩,
    ⟨some 71, .move (.tmp 10), none⟩,
    ⟨some 72, .binOp .neq 3 (.tmp 70) (.tmp 71) 3, none⟩])
  (.cond (.tmp 72)
    (.seq
    (.reg [
      ⟨some 2, .assign (.const (.bool false)), none⟩])
    .ret)
    .skip))
  (.seq
  (.reg [
    ⟨some 74, .move (.tmp 0), none⟩,
    ⟨some 75, .call { callee := .value (.func 30), args := #[.tmp 74], argTypes := #[42] }, none⟩,
    ⟨some 76, .call { callee := .value (.func 31), args := #[.tmp 75], argTypes := #[42] }, none⟩,
    ⟨some 73, .move (.tmp 76), none⟩,
    ⟨some 77, .extract (.tmp 73) 0, none⟩,
    ⟨some 78, .extract (.tmp 73) 1, none⟩,
    ⟨some 12, .assign (.tmp 77), none⟩,
    ⟨some 13, .assign (.tmp 78), none⟩])
  (.seq
  (.seq
  (.reg [
    ⟨some 79, .move (.tmp 12), none⟩,
    ⟨some 80, .move (.tmp 4), none⟩,
    ⟨some 81, .call { callee := .value (.func 32), args := #[.tmp 79, .tmp 80], argTypes := #[42, 42] }, none⟩,
    ⟨some 82, .unOp .not 4 (.tmp 81), none⟩,
    ⟨some 83, .move (.tmp 82), none⟩,
    ⟨some 84, .move (.tmp 13), some (83, false)⟩,
    ⟨some 85, .move (.tmp 5), some (83, false)⟩,
    ⟨some 86, .binOp .neq 4 (.tmp 84) (.tmp 85) 4, some (83, false)⟩,
    ⟨some 87, .pick (.tmp 83) (.const (.bool true)) (.tmp 86), none⟩])
  (.cond (.tmp 87)
    (.seq
    (.reg [
      ⟨some 2, .assign (.const (.bool false)), none⟩])
    .ret)
    .skip))
  (.seq
  (.reg [
    ⟨some 11, .assign (.const (.int .i64 1)), none⟩])
  (.seq
  (.reg [
    ⟨some 88, .move (.tmp 7), none⟩,
    ⟨some 89, .move (.tmp 11), none⟩,
    ⟨some 90, .call { callee := .value (.func 34), args := #[.tmp 88, .tmp 89], argTypes := #[42, 3] }, none⟩,
    ⟨some 11, .assign (.tmp 90), none⟩])
  (.seq
  (.seq
  (.reg [
    ⟨some 91, .move (.tmp 11), none⟩,
    ⟨some 92, .binOp .lss 3 (.tmp 91) (.const (.int .i64 0)) 3, none⟩])
  (.cond (.tmp 92)
    (.seq
    (.reg [
      ⟨some 2, .assign (.const (.bool false)), none⟩])
    .ret)
    .skip))
  (.seq
  (.seq
  (.reg [
    ⟨some 93, .move (.tmp 11), none⟩,
    ⟨some 94, .move (.tmp 10), none⟩,
    ⟨some 95, .binOp .neq 3 (.tmp 93) (.tmp 94) 3, none⟩])
  (.cond (.tmp 95)
    (.seq
    (.reg [
      ⟨some 2, .assign (.const (.bool false)), none⟩])
    .ret)
    .skip))
  (.seq
  (.reg [
    ⟨some 2, .assign (.const (.bool true)), none⟩])
  .ret)))))))))))))))))))))))))
theorem hd9 : Try.f9.body.map dec = some c9 := by kernel_rfl
theorem e9 {R : AV → AH → Prop} {h : AH} (x0 : AV) (H : h.wf → AI Try.prog c9 (RetQ Try.prog [.tmp 2] R) [x0, un, un, un, un, un, un, un, un, un, un, un, un, un, un, un, un, un, un, un, un, un, un, un, un, un, un, un, un, un, un, un, un, un, un, un, un, un, un, un, un, un, un, un, un, un, un, un, un, un, un, un, un, un, un, un, un, un, un, un, un, un, un, un, un, un, un, un, un, un, un, un, un, un, un, un, un, un, un, un, un, un, un, un, un, un, un, un, un, un, un, un, un, un, un, un] h) : AC Try.prog 9 [x0] h R :=
  AC_of' (rs := [.tmp 2]) Try.func9 (by kernel_rfl) hd9 Try.ntmps9 rfl H

end Go.Proofs.Ytfgealbhigkddaa
