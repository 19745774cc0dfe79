/- The short forms of the functions' code, and facts on types. -/
import Derived.Test.YtfgealbhigkddaaProg
import Derived.Test.YtfgealbhigkddaaB2
namespace Go.Proofs.Ytfgealbhigkddaa
open Go.AL
set_option linter.unusedVariables false
theorem sz1 : szT Try.prog 1 = some 1 := by kernel_rfl
theorem by1 : byT Try.prog 1 = some 8 := by kernel_rfl
theorem ag1 : aggT Try.prog 1 = some false := by kernel_rfl
theorem ze1 : zeroA Try.prog 1 = some .nf := by kernel_rfl
theorem sz3 : szT Try.prog 3 = some 1 := by kernel_rfl
theorem by3 : byT Try.prog 3 = some 8 := by kernel_rfl
theorem ag3 : aggT Try.prog 3 = some false := by kernel_rfl
theorem ze3 : zeroA Try.prog 3 = some (.i .i64 0) := by kernel_rfl
theorem sz4 : szT Try.prog 4 = some 1 := by kernel_rfl
theorem by4 : byT Try.prog 4 = some 1 := by kernel_rfl
theorem ag4 : aggT Try.prog 4 = some false := by kernel_rfl
theorem ze4 : zeroA Try.prog 4 = some (.b false) := by kernel_rfl
theorem sz25 : szT Try.prog 25 = some 1 := by kernel_rfl
theorem by25 : byT Try.prog 25 = some 24 := by kernel_rfl
theorem ag25 : aggT Try.prog 25 = some false := by kernel_rfl
theorem ze25 : zeroA Try.prog 25 = some .ns := by kernel_rfl
theorem sz41 : szT Try.prog 41 = some 1 := by kernel_rfl
theorem by41 : byT Try.prog 41 = some 8 := by kernel_rfl
theorem ag41 : aggT Try.prog 41 = some false := by kernel_rfl
theorem ze41 : zeroA Try.prog 41 = some .nf := by kernel_rfl

/-- spec.l1In -/
def c42 : IC :=
  (.seq
  (.reg [
    ⟨some 6, .assign (.const (.bool false)), none⟩])
  (.seq
  (.reg [
    ⟨some 7, .move (.tmp 0), none⟩,
    ⟨some 8, .move (.tmp 1), none⟩,
    ⟨some 9, .binOp .geq 3 (.tmp 7) (.tmp 8) 3, none⟩,
    ⟨some 10, .move (.tmp 9), none⟩,
    ⟨some 11, .move (.tmp 0), some (10, true)⟩,
    ⟨some 12, .move (.tmp 2), some (10, true)⟩,
    ⟨some 13, .binOp .leq 3 (.tmp 11) (.tmp 12) 3, some (10, true)⟩,
    ⟨some 14, .pick (.tmp 10) (.tmp 13) (.const (.bool false)), none⟩,
    ⟨some 6, .assign (.tmp 14), none⟩])
  .ret))
theorem hd42 : Try.f42.body.map dec = some c42 := by kernel_rfl
theorem e42 {R : AV → AH → Prop} {h : AH} (x0 x1 x2 : AV) (H : h.wf → AI Try.prog c42 (RetQ Try.prog [.tmp 6] R) [x0, x1, x2, un, un, un, un, un, un, un, un, un, un, un, un] h) : AC Try.prog 42 [x0, x1, x2] h R :=
  AC_of' (rs := [.tmp 6]) Try.func42 (by kernel_rfl) hd42 Try.ntmps42 rfl H

/-- spec.moModulus -/
def c41 : IC :=
  (.seq
  (.reg [
    ⟨some 2, .assign (.const (.bool false)), none⟩])
  (.seq
  (.reg [
    ⟨some 3, .move (.tmp 0), none⟩,
    ⟨some 4, .call { callee := .value (.func 42), args := #[.tmp 3, .const (.int .i64 2), .const (.int .i64 10000)], argTypes := #[3, 3, 3] }, none⟩,
    ⟨some 2, .assign (.tmp 4), none⟩])
  .ret))
theorem hd41 : Try.f41.body.map dec = some c41 := by kernel_rfl
theorem e41 {R : AV → AH → Prop} {h : AH} (x0 : AV) (H : h.wf → AI Try.prog c41 (RetQ Try.prog [.tmp 2] R) [x0, un, un, un, un] h) : AC Try.prog 41 [x0] h R :=
  AC_of' (rs := [.tmp 2]) Try.func41 (by kernel_rfl) hd41 Try.ntmps41 rfl H

/-- spec.OrderModulo -/
def c12 : IC :=
  (.seq
  (.reg [
    ⟨some 4, .assign (.const (.int .i64 0)), none⟩,
    ⟨some 5, .assign (.const (.bool false)), none⟩])
  (.seq
  (.seq
  (.reg [
    ⟨some 8, .move (.tmp 1), none⟩,
    ⟨some 9, .call { callee := .value (.func 41), args := #[.tmp 8], argTypes := #[3] }, none⟩,
    ⟨some 10, .unOp .not 4 (.tmp 9), none⟩,
    ⟨some 11, .move (.tmp 10), none⟩,
    ⟨some 12, .move (.tmp 0), some (11, false)⟩,
    ⟨some 13, .move (.tmp 1), some (11, false)⟩,
    ⟨some 14, .binOp .sub 3 (.tmp 13) (.const (.int .i64 1)) 3, some (11, false)⟩,
    ⟨some 15, .call { callee := .value (.func 42), args := #[.tmp 12, .const (.int .i64 0), .tmp 14], argTypes := #[3, 3, 3] }, some (11, false)⟩,
    ⟨some 16, .unOp .not 4 (.tmp 15), some (11, false)⟩,
    ⟨some 17, .pick (.tmp 11) (.const (.bool true)) (.tmp 16), none⟩])
  (.cond (.tmp 17)
    (.seq
    (.reg [
      ⟨some 4, .assign (.const (.int .i64 0)), none⟩,
      ⟨some 5, .assign (.const (.bool false)), none⟩])
    .ret)
    .skip))
  (.seq
  (.reg [
    ⟨some 18, .move (.tmp 0), none⟩,
    ⟨some 6, .assign (.tmp 18), none⟩])
  (.seq
  (.seq
  (.reg [
    ⟨some 7, .assign (.const (.int .i64 1)), none⟩])
  (.block 0
  (.loop
    (.seq
    (.seq
    (.reg [
      ⟨some 19, .move (.tmp 7), none⟩,
      ⟨some 20, .move (.tmp 1), none⟩,
      ⟨some 21, .binOp .leq 3 (.tmp 19) (.tmp 20) 3, none⟩])
    (.cond (.tmp 21)
      .skip
      (.exit 0)))
    (.seq
    (.block 1
    (.seq
    (.seq
    (.reg [
      ⟨some 24, .move (.tmp 6), none⟩,
      ⟨some 25, .binOp .eql 3 (.tmp 24) (.const (.int .i64 1)) 3, none⟩])
    (.cond (.tmp 25)
      (.seq
      (.reg [
        ⟨some 26, .move (.tmp 7), none⟩,
        ⟨some 4, .assign (.tmp 26), none⟩,
        ⟨some 5, .assign (.const (.bool true)), none⟩])
      .ret)
      .skip))
    (.reg [
      ⟨some 27, .move (.tmp 6), none⟩,
      ⟨some 28, .move (.tmp 0), none⟩,
      ⟨some 29, .binOp .mul 3 (.tmp 27) (.tmp 28) 3, none⟩,
      ⟨some 30, .move (.tmp 1), none⟩,
      ⟨some 31, .binOp .rem 3 (.tmp 29) (.tmp 30) 3, none⟩,
      ⟨some 6, .assign (.tmp 31), none⟩])))
    (.reg [
      ⟨some 22, .move (.tmp 7), none⟩,
      ⟨some 23, .binOp .add 3 (.tmp 22) (.const (.int .i64 1)) 3, none⟩,
      ⟨some 7, .assign (.tmp 23), none⟩]))))))
  (.seq
  (.reg [
    ⟨some 4, .assign (.const (.int .i64 0)), none⟩,
    ⟨some 5, .assign (.const (.bool false)), none⟩])
  .ret)))))
theorem hd12 : Try.f12.body.map dec = some c12 := by kernel_rfl
theorem e12 {R : AV → AH → Prop} {h : AH} (x0 x1 : AV) (H : h.wf → AI Try.prog c12 (RetQ Try.prog [.tmp 4, .tmp 5] R) [x0, x1, un, un, un, un, un, un, un, un, un, un, un, un, un, un, un, un, un, un, un, un, un, un, un, un, un, un, un, un, un, un] h) : AC Try.prog 12 [x0, x1] h R :=
  AC_of' (rs := [.tmp 4, .tmp 5]) Try.func12 (by kernel_rfl) hd12 Try.ntmps12 rfl H

/-- slices.IndexFunc[[]int,int] -/
def c78 : IC :=
  (.seq
  (.reg [
    ⟨some 4, .assign (.const (.int .i64 0)), none⟩])
  (.seq
  (.seq
  (.reg [
    ⟨some 6, .move (.tmp 0), none⟩,
    ⟨some 7, .call { callee := .builtin .len, args := #[.tmp 6], argTypes := #[25] }, none⟩,
    ⟨some 8, .move (.const (.int .i64 0)), none⟩])
  (.block 0
  (.loop
    (.seq
    (.reg [
      ⟨some 9, .binOp .lss 3 (.tmp 8) (.tmp 7) 3, none⟩])
    (.seq
    (.cond (.tmp 9)
      .skip
      (.exit 0))
    (.seq
    (.block 1
    (.seq
    (.reg [
      ⟨some 10, .move (.tmp 8), none⟩,
      ⟨some 5, .assign (.tmp 10), none⟩])
    (.seq
    (.reg [
      ⟨some 11, .move (.tmp 1), none⟩,
      ⟨some 12, .move (.tmp 0), none⟩,
      ⟨some 13, .move (.tmp 5), none⟩,
      ⟨some 14, .indexAddr 25 (.tmp 12) (.tmp 13), none⟩,
      ⟨some 15, .load 3 (.tmp 14), none⟩,
      ⟨some 16, .call { callee := .value (.tmp 11), args := #[.tmp 15], argTypes := #[3] }, none⟩])
    (.cond (.tmp 16)
      (.seq
      (.reg [
        ⟨some 17, .move (.tmp 5), none⟩,
        ⟨some 4, .assign (.tmp 17), none⟩])
      .ret)
      .skip))))
    (.reg [
      ⟨some 18, .binOp .add 3 (.tmp 8) (.const (.int .i64 1)) 3, none⟩,
      ⟨some 8, .move (.tmp 18), none⟩])))))))
  (.seq
  (.reg [
    ⟨some 4, .assign (.const (.int .i64 (-1))), none⟩])
  .ret)))
theorem hd78 : Try.f78.body.map dec = some c78 := by kernel_rfl
theorem e78 {R : AV → AH → Prop} {h : AH} (x0 x1 : AV) (H : h.wf → AI Try.prog c78 (RetQ Try.prog [.tmp 4] R) [x0, x1, un, un, un, un, un, un, un, un, un, un, un, un, un, un, un, un, un] h) : AC Try.prog 78 [x0, x1] h R :=
  AC_of' (rs := [.tmp 4]) Try.func78 (by kernel_rfl) hd78 Try.ntmps78 rfl H

/-- slices.ContainsFunc[[]int,int] -/
def c46 : IC :=
  (.seq
  (.reg [
    ⟨some 4, .assign (.const (.bool false)), none⟩])
  (.seq
  (.reg [
    ⟨some 5, .move (.tmp 0), none⟩,
    ⟨some 6, .move (.tmp 1), none⟩,
    ⟨some 7, .call { callee := .value (.func 78), args := #[.tmp 5, .tmp 6], argTypes := #[25, 41] }, none⟩,
    ⟨some 8, .binOp .geq 3 (.tmp 7) (.const (.int .i64 0)) 3, none⟩,
    ⟨some 4, .assign (.tmp 8), none⟩])
  .ret))
theorem hd46 : Try.f46.body.map dec = some c46 := by kernel_rfl
theorem e46 {R : AV → AH → Prop} {h : AH} (x0 x1 : AV) (H : h.wf → AI Try.prog c46 (RetQ Try.prog [.tmp 4] R) [x0, x1, un, un, un, un, un, un, un] h) : AC Try.prog 46 [x0, x1] h R :=
  AC_of' (rs := [.tmp 4]) Try.func46 (by kernel_rfl) hd46 Try.ntmps46 rfl H

/-- impl.in -/
def c49 : IC :=
  (.seq
  (.reg [
    ⟨some 6, .assign (.const (.bool false)), none⟩])
  (.seq
  (.reg [
    ⟨some 7, .move (.tmp 0), none⟩,
    ⟨some 8, .move (.tmp 1), none⟩,
    ⟨some 9, .binOp .geq 3 (.tmp 7) (.tmp 8) 3, none⟩,
    ⟨some 10, .move (.tmp 9), none⟩,
    ⟨some 11, .move (.tmp 0), some (10, true)⟩,
    ⟨some 12, .move (.tmp 2), some (10, true)⟩,
    ⟨some 13, .binOp .leq 3 (.tmp 11) (.tmp 12) 3, some (10, true)⟩,
    ⟨some 14, .pick (.tmp 10) (.tmp 13) (.const (.bool false)), none⟩,
    ⟨some 6, .assign (.tmp 14), none⟩])
  .ret))
theorem hd49 : Try.f49.body.map dec = some c49 := by kernel_rfl
theorem e49 {R : AV → AH → Prop} {h : AH} (x0 x1 x2 : AV) (H : h.wf → AI Try.prog c49 (RetQ Try.prog [.tmp 6] R) [x0, x1, x2, un, un, un, un, un, un, un, un, un, un, un, un] h) : AC Try.prog 49 [x0, x1, x2] h R :=
  AC_of' (rs := [.tmp 6]) Try.func49 (by kernel_rfl) hd49 Try.ntmps49 rfl H

/-- impl.modulusOk -/
def c76 : IC :=
  (.seq
  (.reg [
    ⟨some 2, .assign (.const (.bool false)), none⟩])
  (.seq
  (.reg [
    ⟨some 3, .move (.tmp 0), none⟩,
    ⟨some 4, .call { callee := .value (.func 49), args := #[.tmp 3, .const (.int .i64 2), .const (.int .i64 10000)], argTypes := #[3, 3, 3] }, none⟩,
    ⟨some 2, .assign (.tmp 4), none⟩])
  .ret))
theorem hd76 : Try.f76.body.map dec = some c76 := by kernel_rfl
theorem e76 {R : AV → AH → Prop} {h : AH} (x0 : AV) (H : h.wf → AI Try.prog c76 (RetQ Try.prog [.tmp 2] R) [x0, un, un, un, un] h) : AC Try.prog 76 [x0] h R :=
  AC_of' (rs := [.tmp 2]) Try.func76 (by kernel_rfl) hd76 Try.ntmps76 rfl H

/-- impl.residuesOk$1 -/
def c77 : IC :=
  (.seq
  (.reg [
    ⟨some 3, .assign (.const (.bool false)), none⟩])
  (.seq
  (.reg [
    ⟨some 4, .move (.tmp 0), none⟩,
    ⟨some 5, .load 3 (.tmp 1), none⟩,
    ⟨some 6, .binOp .sub 3 (.tmp 5) (.const (.int .i64 1)) 3, none⟩,
    ⟨some 7, .call { callee := .value (.func 49), args := #[.tmp 4, .const (.int .i64 0), .tmp 6], argTypes := #[3, 3, 3] }, none⟩,
    ⟨some 8, .unOp .not 4 (.tmp 7), none⟩,
    ⟨some 3, .assign (.tmp 8), none⟩])
  .ret))
theorem hd77 : Try.f77.body.map dec = some c77 := by kernel_rfl
theorem e77 {R : AV → AH → Prop} {h : AH} (x0 x1 : AV) (H : h.wf → AI Try.prog c77 (RetQ Try.prog [.tmp 3] R) [x0, x1, un, un, un, un, un, un, un] h) : AC Try.prog 77 [x0, x1] h R :=
  AC_of' (rs := [.tmp 3]) Try.func77 (by kernel_rfl) hd77 Try.ntmps77 rfl H

/-- impl.residuesOk -/
def c43 : IC :=
  (.seq
  (.reg [
    ⟨some 3, .box 3 (.tmp 1), none⟩,
    ⟨some 4, .assign (.const (.bool false)), none⟩])
  (.seq
  (.reg [
    ⟨some 5, .load 3 (.tmp 3), none⟩,
    ⟨some 6, .call { callee := .value (.func 76), args := #[.tmp 5], argTypes := #[3] }, none⟩,
    ⟨some 7, .move (.tmp 6), none⟩,
    ⟨some 8, .move (.tmp 0), some (7, true)⟩,
    ⟨some 9, .makeFunc (.func 77) #[] #[.tmp 3], some (7, true)⟩,
    ⟨some 10, .call { callee := .value (.func 46), args := #[.tmp 8, .tmp 9], argTypes := #[25, 41] }, some (7, true)⟩,
    ⟨some 11, .unOp .not 4 (.tmp 10), some (7, true)⟩,
    ⟨some 12, .pick (.tmp 7) (.tmp 11) (.const (.bool false)), none⟩,
    ⟨some 4, .assign (.tmp 12), none⟩])
  .ret))
theorem hd43 : Try.f43.body.map dec = some c43 := by kernel_rfl
theorem e43 {R : AV → AH → Prop} {h : AH} (x0 x1 : AV) (H : h.wf → AI Try.prog c43 (RetQ Try.prog [.tmp 4] R) [x0, x1, un, un, un, un, un, un, un, un, un, un, un] h) : AC Try.prog 43 [x0, x1] h R :=
  AC_of' (rs := [.tmp 4]) Try.func43 (by kernel_rfl) hd43 Try.ntmps43 rfl H

/-- impl.OrderModulo -/
def c13 : IC :=
  (.seq
  (.reg [
    ⟨some 4, .assign (.const (.int .i64 0)), none⟩,
    ⟨some 5, .assign (.const (.bool false)), none⟩])
  (.seq
  (.seq
  (.reg [
    ⟨some 8, .move (.tmp 0), none⟩,
    ⟨some 9, .buildSlice 25 1 #[(0, .tmp 8)], none⟩,
    ⟨some 10, .move (.tmp 1), none⟩,
    ⟨some 11, .call { callee := .value (.func 43), args := #[.tmp 9, .tmp 10], argTypes := #[25, 3] }, none⟩,
    ⟨some 12, .unOp .not 4 (.tmp 11), none⟩])
  (.cond (.tmp 12)
    (.seq
    (.reg [
      ⟨some 4, .assign (.const (.int .i64 0)), none⟩,
      ⟨some 5, .assign (.const (.bool false)), none⟩])
    .ret)
    .skip))
  (.seq
  (.seq
  (.reg [
    ⟨some 13, .move (.tmp 0), none⟩,
    ⟨some 6, .assign (.const (.int .i64 1)), none⟩,
    ⟨some 7, .assign (.tmp 13), none⟩])
  (.block 0
  (.loop
    (.seq
    (.seq
    (.reg [
      ⟨some 14, .move (.tmp 6), none⟩,
      ⟨some 15, .move (.tmp 1), none⟩,
      ⟨some 16, .binOp .leq 3 (.tmp 14) (.tmp 15) 3, none⟩])
    (.cond (.tmp 16)
      .skip
      (.exit 0)))
    (.seq
    (.block 1
    (.seq
    (.seq
    (.reg [
      ⟨some 19, .move (.tmp 7), none⟩,
      ⟨some 20, .binOp .eql 3 (.tmp 19) (.const (.int .i64 1)) 3, none⟩])
    (.cond (.tmp 20)
      (.seq
      (.reg [
        ⟨some 21, .move (.tmp 6), none⟩,
        ⟨some 4, .assign (.tmp 21), none⟩,
        ⟨some 5, .assign (.const (.bool true)), none⟩])
      .ret)
      .skip))
    (.reg [
      ⟨some 22, .move (.tmp 7), none⟩,
      ⟨some 23, .move (.tmp 0), none⟩,
      ⟨some 24, .binOp .mul 3 (.tmp 22) (.tmp 23) 3, none⟩,
      ⟨some 25, .move (.tmp 1), none⟩,
      ⟨some 26, .binOp .rem 3 (.tmp 24) (.tmp 25) 3, none⟩,
      ⟨some 7, .assign (.tmp 26), none⟩])))
    (.reg [
      ⟨some 17, .move (.tmp 6), none⟩,
      ⟨some 18, .binOp .add 3 (.tmp 17) (.const (.int .i64 1)) 3, none⟩,
      ⟨some 6, .assign (.tmp 18), none⟩]))))))
  (.seq
  (.reg [
    ⟨some 4, .assign (.const (.int .i64 0)), none⟩,
    ⟨some 5, .assign (.const (.bool false)), none⟩])
  .ret))))
theorem hd13 : Try.f13.body.map dec = some c13 := by kernel_rfl
theorem e13 {R : AV → AH → Prop} {h : AH} (x0 x1 : AV) (H : h.wf → AI Try.prog c13 (RetQ Try.prog [.tmp 4, .tmp 5] R) [x0, x1, un, un, un, un, un, un, un, un, un, un, un, un, un, un, un, un, un, un, un, un, un, un, un, un, un] h) : AC Try.prog 13 [x0, x1] h R :=
  AC_of' (rs := [.tmp 4, .tmp 5]) Try.func13 (by kernel_rfl) hd13 Try.ntmps13 rfl H

/-- laws.FnExactOrderModulo -/
def c3 : IC :=
  (.seq
  (.reg [
    ⟨some 4, .assign (.const (.bool false)), none⟩])
  (.seq
  (.reg [
    ⟨some 10, .move (.tmp 0), none⟩,
    ⟨some 11, .move (.tmp 1), none⟩,
    ⟨some 12, .call { callee := .value (.func 12), args := #[.tmp 10, .tmp 11], argTypes := #[3, 3] }, none⟩,
    ⟨some 9, .move (.tmp 12), none⟩,
    ⟨some 13, .extract (.tmp 9) 0, none⟩,
    ⟨some 14, .extract (.tmp 9) 1, none⟩,
    ⟨some 5, .assign (.tmp 13), none⟩,
    ⟨some 6, .assign (.tmp 14), none⟩])
  (.seq
  (.reg [
    ⟨some 16, .move (.tmp 0), none⟩,
    ⟨some 17, .move (.tmp 1), none⟩,
    ⟨some 18, .call { callee := .value (.func 13), args := #[.tmp 16, .tmp 17], argTypes := #[3, 3] }, none⟩,
    ⟨some 15, .move (.tmp 18), none⟩,
    ⟨some 19, .extract (.tmp 15) 0, none⟩,
    ⟨some 20, .extract (.tmp 15) 1, none⟩,
    ⟨some 7, .assign (.tmp 19), none⟩,
    ⟨some 8, .assign (.tmp 20), none⟩])
  (.seq
  (.seq
  (.reg [
    ⟨some 21, .move (.tmp 7), none⟩,
    ⟨some 22, .move (.tmp 5), none⟩,
    ⟨some 23, .binOp .neq 3 (.tmp 21) (.tmp 22) 3, none⟩,
    ⟨some 24, .move (.tmp 23), none⟩,
    ⟨some 25, .move (.tmp 8), some (24, false)⟩,
    ⟨some 26, .move (.tmp 6), some (24, false)⟩,
    ⟨some 27, .binOp .neq 4 (.tmp 25) (.tmp 26) 4, some (24, false)⟩,
    ⟨some 28, .pick (.tmp 24) (.const (.bool true)) (.tmp 27), none⟩])
  (.cond (.tmp 28)
    (.seq
    (.reg [
      ⟨some 4, .assign (.const (.bool false)), none⟩])
    .ret)
    .skip))
  (.seq
  (.reg [
    ⟨some 4, .assign (.const (.bool true)), none⟩])
  .ret)))))
theorem hd3 : Try.f3.body.map dec = some c3 := by kernel_rfl
theorem e3 {R : AV → AH → Prop} {h : AH} (x0 x1 : AV) (H : h.wf → AI Try.prog c3 (RetQ Try.prog [.tmp 4] R) [x0, x1, un, un, un, un, un, un, un, un, un, un, un, un, un, un, un, un, un, un, un, un, un, un, un, un, un, un, un] h) : AC Try.prog 3 [x0, x1] h R :=
  AC_of' (rs := [.tmp 4]) Try.func3 (by kernel_rfl) hd3 Try.ntmps3 rfl H

end Go.Proofs.Ytfgealbhigkddaa
