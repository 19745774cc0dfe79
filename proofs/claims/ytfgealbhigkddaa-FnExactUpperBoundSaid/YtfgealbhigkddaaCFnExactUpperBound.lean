/- The short forms of the functions' code, and facts on types. -/
import Derived.Test.YtfgealbhigkddaaProg
import Derived.Test.YtfgealbhigkddaaB5
namespace Go.Proofs.Ytfgealbhigkddaa
open Go.AL
set_option linter.unusedVariables false
theorem sz1 : szT Try.prog 1 = some 1 := by kernel_rfl
theorem by1 : byT Try.prog 1 = some 8 := by kernel_rfl
theorem ag1 : aggT Try.prog 1 = some false := by kernel_rfl
theorem ze1 : zeroA Try.prog 1 = some .nf := by kernel_rfl
theorem sz3 : szT Try.prog 3 = some 1 := by kernel_rfl
theorem by3 : byT Try.prog 3 = some 8 := by kernel_rfl
theorem ag3 : aggT Try.prog 3 = some false := by kernel_rfl
theorem ze3 : zeroA Try.prog 3 = some (.i .i64 0) := by kernel_rfl
theorem sz4 : szT Try.prog 4 = some 1 := by kernel_rfl
theorem by4 : byT Try.prog 4 = some 1 := by kernel_rfl
theorem ag4 : aggT Try.prog 4 = some false := by kernel_rfl
theorem ze4 : zeroA Try.prog 4 = some (.b false) := by kernel_rfl
theorem sz5 : szT Try.prog 5 = some 1 := by kernel_rfl
theorem by5 : byT Try.prog 5 = some 1 := by kernel_rfl
theorem ag5 : aggT Try.prog 5 = some false := by kernel_rfl
theorem ze5 : zeroA Try.prog 5 = some (.i .u8 0) := by kernel_rfl
theorem sz9 : szT Try.prog 9 = some 1 := by kernel_rfl
theorem by9 : byT Try.prog 9 = some 16 := by kernel_rfl
theorem ag9 : aggT Try.prog 9 = some false := by kernel_rfl
theorem ze9 : zeroA Try.prog 9 = some (.s ⟨#[]⟩) := by kernel_rfl
theorem sz25 : szT Try.prog 25 = some 1 := by kernel_rfl
theorem by25 : byT Try.prog 25 = some 24 := by kernel_rfl
theorem ag25 : aggT Try.prog 25 = some false := by kernel_rfl
theorem ze25 : zeroA Try.prog 25 = some .ns := by kernel_rfl
theorem sz77 : szT Try.prog 77 = some 1 := by kernel_rfl
theorem by77 : byT Try.prog 77 = some 8 := by kernel_rfl
theorem ag77 : aggT Try.prog 77 = some false := by kernel_rfl
theorem ze77 : zeroA Try.prog 77 = some (.i .u64 0) := by kernel_rfl
theorem sz82 : szT Try.prog 82 = some 1 := by kernel_rfl
theorem by82 : byT Try.prog 82 = some 8 := by kernel_rfl
theorem ag82 : aggT Try.prog 82 = some false := by kernel_rfl
theorem ze82 : zeroA Try.prog 82 = some (.i .u64 0) := by kernel_rfl
theorem sz92 : szT Try.prog 92 = some 1 := by kernel_rfl
theorem by92 : byT Try.prog 92 = some 4 := by kernel_rfl
theorem ag92 : aggT Try.prog 92 = some false := by kernel_rfl
theorem ze92 : zeroA Try.prog 92 = some (.i .u32 0) := by kernel_rfl

/-- spec.l1In -/
def c42 : IC :=
  (.seq
  (.reg [
    ⟨some 6, .assign (.const (.bool false)), none⟩])
  (.seq
  (.reg [
    ⟨some 7, .move (.tmp 0), none⟩,
    ⟨some 8, .move (.tmp 1), none⟩,
    ⟨some 9, .binOp .geq 3 (.tmp 7) (.tmp 8) 3, none⟩,
    ⟨some 10, .move (.tmp 9), none⟩,
    ⟨some 11, .move (.tmp 0), some (10, true)⟩,
    ⟨some 12, .move (.tmp 2), some (10, true)⟩,
    ⟨some 13, .binOp .leq 3 (.tmp 11) (.tmp 12) 3, some (10, true)⟩,
    ⟨some 14, .pick (.tmp 10) (.tmp 13) (.const (.bool false)), none⟩,
    ⟨some 6, .assign (.tmp 14), none⟩])
  .ret))
theorem hd42 : Try.f42.body.map dec = some c42 := by kernel_rfl
theorem e42 {R : AV → AH → Prop} {h : AH} (x0 x1 x2 : AV) (H : h.wf → AI Try.prog c42 (RetQ Try.prog [.tmp 6] R) [x0, x1, x2, un, un, un, un, un, un, un, un, un, un, un, un] h) : AC Try.prog 42 [x0, x1, x2] h R :=
  AC_of' (rs := [.tmp 6]) Try.func42 (by kernel_rfl) hd42 Try.ntmps42 rfl H

/-- spec.shNumber -/
def c59 : IC :=
  (.seq
  (.reg [
    ⟨some 2, .assign (.const (.bool false)), none⟩])
  (.seq
  (.reg [
    ⟨some 3, .move (.tmp 0), none⟩,
    ⟨some 4, .call { callee := .value (.func 42), args := #[.tmp 3, .const (.int .i64 1), .const (.int .i64 100)], argTypes := #[3, 3, 3] }, none⟩,
    ⟨some 2, .assign (.tmp 4), none⟩])
  .ret))
theorem hd59 : Try.f59.body.map dec = some c59 := by kernel_rfl
theorem e59 {R : AV → AH → Prop} {h : AH} (x0 : AV) (H : h.wf → AI Try.prog c59 (RetQ Try.prog [.tmp 2] R) [x0, un, un, un, un] h) : AC Try.prog 59 [x0] h R :=
  AC_of' (rs := [.tmp 2]) Try.func59 (by kernel_rfl) hd59 Try.ntmps59 rfl H

/-- spec.shBits -/
def c60 : IC :=
  (.seq
  (.reg [
    ⟨some 2, .assign (.const (.slice none 0 0)), none⟩])
  (.seq
  (.reg [
    ⟨some 3, .assign (.const (.slice none 0 0)), none⟩])
  (.seq
  (.block 0
  (.loop
    (.seq
    (.seq
    (.reg [
      ⟨some 4, .move (.tmp 0), none⟩,
      ⟨some 5, .binOp .gtr 3 (.tmp 4) (.const (.int .i64 0)) 3, none⟩])
    (.cond (.tmp 5)
      .skip
      (.exit 0)))
    (.seq
    (.block 1
    (.reg [
      ⟨some 8, .move (.tmp 0), none⟩,
      ⟨some 9, .binOp .rem 3 (.tmp 8) (.const (.int .i64 2)) 3, none⟩,
      ⟨some 10, .buildSlice 25 1 #[(0, .tmp 9)], none⟩,
      ⟨some 11, .move (.tmp 3), none⟩,
      ⟨some 12, .call { callee := .builtin .append, args := #[.tmp 10, .tmp 11], argTypes := #[25, 25] }, none⟩,
      ⟨some 3, .assign (.tmp 12), none⟩]))
    (.reg [
      ⟨some 6, .move (.tmp 0), none⟩,
      ⟨some 7, .binOp .quo 3 (.tmp 6) (.const (.int .i64 2)) 3, none⟩,
      ⟨some 0, .assign (.tmp 7), none⟩])))))
  (.seq
  (.reg [
    ⟨some 13, .move (.tmp 3), none⟩,
    ⟨some 2, .assign (.tmp 13), none⟩])
  .ret))))
theorem hd60 : Try.f60.body.map dec = some c60 := by kernel_rfl
theorem e60 {R : AV → AH → Prop} {h : AH} (x0 : AV) (H : h.wf → AI Try.prog c60 (RetQ Try.prog [.tmp 2] R) [x0, un, un, un, un, un, un, un, un, un, un, un, un, un] h) : AC Try.prog 60 [x0] h R :=
  AC_of' (rs := [.tmp 2]) Try.func60 (by kernel_rfl) hd60 Try.ntmps60 rfl H

/-- spec.shOnes -/
def c61 : IC :=
  (.seq
  (.reg [
    ⟨some 2, .assign (.const (.int .i64 0)), none⟩])
  (.seq
  (.reg [
    ⟨some 3, .assign (.const (.int .i64 0)), none⟩])
  (.seq
  (.seq
  (.reg [
    ⟨some 6, .move (.tmp 0), none⟩,
    ⟨some 7, .call { callee := .value (.func 60), args := #[.tmp 6], argTypes := #[3] }, none⟩,
    ⟨some 8, .call { callee := .builtin .len, args := #[.tmp 7], argTypes := #[25] }, none⟩,
    ⟨some 9, .move (.const (.int .i64 0)), none⟩])
  (.block 0
  (.loop
    (.seq
    (.reg [
      ⟨some 10, .binOp .lss 3 (.tmp 9) (.tmp 8) 3, none⟩])
    (.seq
    (.cond (.tmp 10)
      .skip
      (.exit 0))
    (.seq
    (.block 1
    (.seq
    (.reg [
      ⟨some 11, .indexAddr 25 (.tmp 7) (.tmp 9), none⟩,
      ⟨some 12, .load 3 (.tmp 11), none⟩,
      ⟨some 5, .assign (.tmp 12), none⟩])
    (.reg [
      ⟨some 13, .move (.tmp 3), none⟩,
      ⟨some 14, .move (.tmp 5), none⟩,
      ⟨some 15, .binOp .add 3 (.tmp 13) (.tmp 14) 3, none⟩,
      ⟨some 3, .assign (.tmp 15), none⟩])))
    (.reg [
      ⟨some 16, .binOp .add 3 (.tmp 9) (.const (.int .i64 1)) 3, none⟩,
      ⟨some 9, .move (.tmp 16), none⟩])))))))
  (.seq
  (.reg [
    ⟨some 17, .move (.tmp 3), none⟩,
    ⟨some 2, .assign (.tmp 17), none⟩])
  .ret))))
theorem hd61 : Try.f61.body.map dec = some c61 := by kernel_rfl
theorem e61 {R : AV → AH → Prop} {h : AH} (x0 : AV) (H : h.wf → AI Try.prog c61 (RetQ Try.prog [.tmp 2] R) [x0, un, un, un, un, un, un, un, un, un, un, un, un, un, un, un, un, un] h) : AC Try.prog 61 [x0] h R :=
  AC_of' (rs := [.tmp 2]) Try.func61 (by kernel_rfl) hd61 Try.ntmps61 rfl H

/-- spec.UpperBound -/
def c24 : IC :=
  (.seq
  (.reg [
    ⟨some 2, .assign (.const (.int .i64 0)), none⟩,
    ⟨some 3, .assign (.const (.bool false)), none⟩])
  (.seq
  (.seq
  (.reg [
    ⟨some 4, .move (.tmp 0), none⟩,
    ⟨some 5, .call { callee := .value (.func 59), args := #[.tmp 4], argTypes := #[3] }, none⟩,
    ⟨some 6, .unOp .not 4 (.tmp 5), none⟩])
  (.cond (.tmp 6)
    (.seq
    (.reg [
      ⟨some 2, .assign (.const (.int .i64 0)), none⟩,
      ⟨some 3, .assign (.const (.bool false)), none⟩])
    .ret)
    .skip))
  (.seq
  (.reg [
    ⟨some 7, .move (.tmp 0), none⟩,
    ⟨some 8, .call { callee := .value (.func 60), args := #[.tmp 7], argTypes := #[3] }, none⟩,
    ⟨some 9, .call { callee := .builtin .len, args := #[.tmp 8], argTypes := #[25] }, none⟩,
    ⟨some 10, .move (.tmp 0), none⟩,
    ⟨some 11, .call { callee := .value (.func 61), args := #[.tmp 10], argTypes := #[3] }, none⟩,
    ⟨some 12, .binOp .add 3 (.tmp 9) (.tmp 11) 3, none⟩,
    ⟨some 13, .binOp .sub 3 (.tmp 12) (.const (.int .i64 2)) 3, none⟩,
    ⟨some 2, .assign (.tmp 13), none⟩,
    ⟨some 3, .assign (.const (.bool true)), none⟩])
  .ret)))
theorem hd24 : Try.f24.body.map dec = some c24 := by kernel_rfl
theorem e24 {R : AV → AH → Prop} {h : AH} (x0 : AV) (H : h.wf → AI Try.prog c24 (RetQ Try.prog [.tmp 2, .tmp 3] R) [x0, un, un, un, un, un, un, un, un, un, un, un, un, un] h) : AC Try.prog 24 [x0] h R :=
  AC_of' (rs := [.tmp 2, .tmp 3]) Try.func24 (by kernel_rfl) hd24 Try.ntmps24 rfl H

/-- impl.in -/
def c49 : IC :=
  (.seq
  (.reg [
    ⟨some 6, .assign (.const (.bool false)), none⟩])
  (.seq
  (.reg [
    ⟨some 7, .move (.tmp 0), none⟩,
    ⟨some 8, .move (.tmp 1), none⟩,
    ⟨some 9, .binOp .geq 3 (.tmp 7) (.tmp 8) 3, none⟩,
    ⟨some 10, .move (.tmp 9), none⟩,
    ⟨some 11, .move (.tmp 0), some (10, true)⟩,
    ⟨some 12, .move (.tmp 2), some (10, true)⟩,
    ⟨some 13, .binOp .leq 3 (.tmp 11) (.tmp 12) 3, some (10, true)⟩,
    ⟨some 14, .pick (.tmp 10) (.tmp 13) (.const (.bool false)), none⟩,
    ⟨some 6, .assign (.tmp 14), none⟩])
  .ret))
theorem hd49 : Try.f49.body.map dec = some c49 := by kernel_rfl
theorem e49 {R : AV → AH → Prop} {h : AH} (x0 x1 x2 : AV) (H : h.wf → AI Try.prog c49 (RetQ Try.prog [.tmp 6] R) [x0, x1, x2, un, un, un, un, un, un, un, un, un, un, un, un] h) : AC Try.prog 49 [x0, x1, x2] h R :=
  AC_of' (rs := [.tmp 6]) Try.func49 (by kernel_rfl) hd49 Try.ntmps49 rfl H

/-- impl.isShort -/
def c62 : IC :=
  (.seq
  (.reg [
    ⟨some 2, .assign (.const (.bool false)), none⟩])
  (.seq
  (.reg [
    ⟨some 3, .move (.tmp 0), none⟩,
    ⟨some 4, .call { callee := .value (.func 49), args := #[.tmp 3, .const (.int .i64 1), .const (.int .i64 100)], argTypes := #[3, 3, 3] }, none⟩,
    ⟨some 2, .assign (.tmp 4), none⟩])
  .ret))
theorem hd62 : Try.f62.body.map dec = some c62 := by kernel_rfl
theorem e62 {R : AV → AH → Prop} {h : AH} (x0 : AV) (H : h.wf → AI Try.prog c62 (RetQ Try.prog [.tmp 2] R) [x0, un, un, un, un] h) : AC Try.prog 62 [x0] h R :=
  AC_of' (rs := [.tmp 2]) Try.func62 (by kernel_rfl) hd62 Try.ntmps62 rfl H

/-- math/bits.Len32 -/
def c81 : IC :=
  (.seq
  (.reg [
    ⟨some 2, .assign (.const (.int .i64 0)), none⟩])
  (.seq
  (.seq
  (.reg [
    ⟨some 3, .move (.tmp 0), none⟩,
    ⟨some 4, .binOp .geq 92 (.tmp 3) (.const (.int .u32 65536)) 92, none⟩])
  (.cond (.tmp 4)
    (.seq
    (.reg [
      ⟨some 5, .move (.tmp 0), none⟩,
      ⟨some 6, .binOp .shr 92 (.tmp 5) (.const (.int .u64 16)) 77, none⟩,
      ⟨some 0, .assign (.tmp 6), none⟩])
    (.reg [
      ⟨some 2, .assign (.const (.int .i64 16)), none⟩]))
    .skip))
  (.seq
  (.seq
  (.reg [
    ⟨some 7, .move (.tmp 0), none⟩,
    ⟨some 8, .binOp .geq 92 (.tmp 7) (.const (.int .u32 256)) 92, none⟩])
  (.cond (.tmp 8)
    (.seq
    (.reg [
      ⟨some 9, .move (.tmp 0), none⟩,
      ⟨some 10, .binOp .shr 92 (.tmp 9) (.const (.int .u64 8)) 77, none⟩,
      ⟨some 0, .assign (.tmp 10), none⟩])
    (.reg [
      ⟨some 11, .move (.tmp 2), none⟩,
      ⟨some 12, .binOp .add 3 (.tmp 11) (.const (.int .i64 8)) 3, none⟩,
      ⟨some 2, .assign (.tmp 12), none⟩]))
    .skip))
  (.seq
  (.reg [
    ⟨some 13, .move (.tmp 2), none⟩,
    ⟨some 14, .move (.tmp 0), none⟩,
    ⟨some 15, .convert 92 5 (.tmp 14), none⟩,
    ⟨some 16, .index 9 (.const (.string { data := #[0, 1, 2, 2, 3, 3, 3, 3, 4, 4, 4, 4, 4, 4, 4, 4, 5, 5, 5, 5, 5, 5, 5, 5, 5, 5, 5, 5, 5, 5, 5, 5, 6, 6, 6, 6, 6, 6, 6, 6, 6, 6, 6, 6, 6, 6, 6, 6, 6, 6, 6, 6, 6, 6, 6, 6, 6, 6, 6, 6, 6, 6, 6, 6, 7, 7, 7, 7, 7, 7, 7, 7, 7, 7, 7, 7, 7, 7, 7, 7, 7, 7, 7, 7, 7, 7, 7, 7, 7, 7, 7, 7, 7, 7, 7, 7, 7, 7, 7, 7, 7, 7, 7, 7, 7, 7, 7, 7, 7, 7, 7, 7, 7, 7, 7, 7, 7, 7, 7, 7, 7, 7, 7, 7, 7, 7, 7, 7, 8, 8, 8, 8, 8, 8, 8, 8, 8, 8, 8, 8, 8, 8, 8, 8, 8, 8, 8, 8, 8, 8, 8, 8, 8, 8, 8, 8, 8, 8, 8, 8, 8, 8, 8, 8, 8, 8, 8, 8, 8, 8, 8, 8, 8, 8, 8, 8, 8, 8, 8, 8, 8, 8, 8, 8, 8, 8, 8, 8, 8, 8, 8, 8, 8, 8, 8, 8, 8, 8, 8, 8, 8, 8, 8, 8, 8, 8, 8, 8, 8, 8, 8, 8, 8, 8, 8, 8, 8, 8, 8, 8, 8, 8, 8, 8, 8, 8, 8, 8, 8, 8, 8, 8, 8, 8, 8, 8, 8, 8, 8, 8, 8, 8, 8, 8, 8, 8, 8, 8, 8, 8, 8, 8, 8, 8, 8, 8] })) (.tmp 15), none⟩,
    ⟨some 17, .convert 5 3 (.tmp 16), none⟩,
    ⟨some 18, .binOp .add 3 (.tmp 13) (.tmp 17) 3, none⟩,
    ⟨some 2, .assign (.tmp 18), none⟩])
  .ret))))
theorem hd81 : Try.f81.body.map dec = some c81 := by kernel_rfl
theorem e81 {R : AV → AH → Prop} {h : AH} (x0 : AV) (H : h.wf → AI Try.prog c81 (RetQ Try.prog [.tmp 2] R) [x0, un, un, un, un, un, un, un, un, un, un, un, un, un, un, un, un, un, un] h) : AC Try.prog 81 [x0] h R :=
  AC_of' (rs := [.tmp 2]) Try.func81 (by kernel_rfl) hd81 Try.ntmps81 rfl H

/-- math/bits.Len64 -/
def c82 : IC :=
  (.seq
  (.reg [
    ⟨some 2, .assign (.const (.int .i64 0)), none⟩])
  (.seq
  (.seq
  (.reg [
    ⟨some 3, .move (.tmp 0), none⟩,
    ⟨some 4, .binOp .geq 82 (.tmp 3) (.const (.int .u64 4294967296)) 82, none⟩])
  (.cond (.tmp 4)
    (.seq
    (.reg [
      ⟨some 5, .move (.tmp 0), none⟩,
      ⟨some 6, .binOp .shr 82 (.tmp 5) (.const (.int .u64 32)) 77, none⟩,
      ⟨some 0, .assign (.tmp 6), none⟩])
    (.reg [
      ⟨some 2, .assign (.const (.int .i64 32)), none⟩]))
    .skip))
  (.seq
  (.seq
  (.reg [
    ⟨some 7, .move (.tmp 0), none⟩,
    ⟨some 8, .binOp .geq 82 (.tmp 7) (.const (.int .u64 65536)) 82, none⟩])
  (.cond (.tmp 8)
    (.seq
    (.reg [
      ⟨some 9, .move (.tmp 0), none⟩,
      ⟨some 10, .binOp .shr 82 (.tmp 9) (.const (.int .u64 16)) 77, none⟩,
      ⟨some 0, .assign (.tmp 10), none⟩])
    (.reg [
      ⟨some 11, .move (.tmp 2), none⟩,
      ⟨some 12, .binOp .add 3 (.tmp 11) (.const (.int .i64 16)) 3, none⟩,
      ⟨some 2, .assign (.tmp 12), none⟩]))
    .skip))
  (.seq
  (.seq
  (.reg [
    ⟨some 13, .move (.tmp 0), none⟩,
    ⟨some 14, .binOp .geq 82 (.tmp 13) (.const (.int .u64 256)) 82, none⟩])
  (.cond (.tmp 14)
    (.seq
    (.reg [
      ⟨some 15, .move (.tmp 0), none⟩,
      ⟨some 16, .binOp .shr 82 (.tmp 15) (.const (.int .u64 8)) 77, none⟩,
      ⟨some 0, .assign (.tmp 16), none⟩])
    (.reg [
      ⟨some 17, .move (.tmp 2), none⟩,
      ⟨some 18, .binOp .add 3 (.tmp 17) (.const (.int .i64 8)) 3, none⟩,
      ⟨some 2, .assign (.tmp 18), none⟩]))
    .skip))
  (.seq
  (.reg [
    ⟨some 19, .move (.tmp 2), none⟩,
    ⟨some 20, .move (.tmp 0), none⟩,
    ⟨some 21, .convert 82 5 (.tmp 20), none⟩,
    ⟨some 22, .index 9 (.const (.string { data := #[0, 1, 2, 2, 3, 3, 3, 3, 4, 4, 4, 4, 4, 4, 4, 4, 5, 5, 5, 5, 5, 5, 5, 5, 5, 5, 5, 5, 5, 5, 5, 5, 6, 6, 6, 6, 6, 6, 6, 6, 6, 6, 6, 6, 6, 6, 6, 6, 6, 6, 6, 6, 6, 6, 6, 6, 6, 6, 6, 6, 6, 6, 6, 6, 7, 7, 7, 7, 7, 7, 7, 7, 7, 7, 7, 7, 7, 7, 7, 7, 7, 7, 7, 7, 7, 7, 7, 7, 7, 7, 7, 7, 7, 7, 7, 7, 7, 7, 7, 7, 7, 7, 7, 7, 7, 7, 7, 7, 7, 7, 7, 7, 7, 7, 7, 7, 7, 7, 7, 7, 7, 7, 7, 7, 7, 7, 7, 7, 8, 8, 8, 8, 8, 8, 8, 8, 8, 8, 8, 8, 8, 8, 8, 8, 8, 8, 8, 8, 8, 8, 8, 8, 8, 8, 8, 8, 8, 8, 8, 8, 8, 8, 8, 8, 8, 8, 8, 8, 8, 8, 8, 8, 8, 8, 8, 8, 8, 8, 8, 8, 8, 8, 8, 8, 8, 8, 8, 8, 8, 8, 8, 8, 8, 8, 8, 8, 8, 8, 8, 8, 8, 8, 8, 8, 8, 8, 8, 8, 8, 8, 8, 8, 8, 8, 8, 8, 8, 8, 8, 8, 8, 8, 8, 8, 8, 8, 8, 8, 8, 8, 8, 8, 8, 8, 8, 8, 8, 8, 8, 8, 8, 8, 8, 8, 8, 8, 8, 8, 8, 8, 8, 8, 8, 8, 8, 8] })) (.tmp 21), none⟩,
    ⟨some 23, .convert 5 3 (.tmp 22), none⟩,
    ⟨some 24, .binOp .add 3 (.tmp 19) (.tmp 23) 3, none⟩,
    ⟨some 2, .assign (.tmp 24), none⟩])
  .ret)))))
theorem hd82 : Try.f82.body.map dec = some c82 := by kernel_rfl
theorem e82 {R : AV → AH → Prop} {h : AH} (x0 : AV) (H : h.wf → AI Try.prog c82 (RetQ Try.prog [.tmp 2] R) [x0, un, un, un, un, un, un, un, un, un, un, un, un, un, un, un, un, un, un, un, un, un, un, un, un] h) : AC Try.prog 82 [x0] h R :=
  AC_of' (rs := [.tmp 2]) Try.func82 (by kernel_rfl) hd82 Try.ntmps82 rfl H

/-- math/bits.Len -/
def c63 : IC :=
  (.seq
  (.reg [
    ⟨some 2, .assign (.const (.int .i64 0)), none⟩])
  (.seq
  (.cond (.const (.bool false))
    (.seq
    (.reg [
      ⟨some 3, .move (.tmp 0), none⟩,
      ⟨some 4, .convert 77 92 (.tmp 3), none⟩,
      ⟨some 5, .call { callee := .value (.func 81), args := #[.tmp 4], argTypes := #[92] }, none⟩,
      ⟨some 2, .assign (.tmp 5), none⟩])
    .ret)
    .skip)
  (.seq
  (.reg [
    ⟨some 6, .move (.tmp 0), none⟩,
    ⟨some 7, .call { callee := .value (.func 82), args := #[.tmp 6], argTypes := #[82] }, none⟩,
    ⟨some 2, .assign (.tmp 7), none⟩])
  .ret)))
theorem hd63 : Try.f63.body.map dec = some c63 := by kernel_rfl
theorem e63 {R : AV → AH → Prop} {h : AH} (x0 : AV) (H : h.wf → AI Try.prog c63 (RetQ Try.prog [.tmp 2] R) [x0, un, un, un, un, un, un, un] h) : AC Try.prog 63 [x0] h R :=
  AC_of' (rs := [.tmp 2]) Try.func63 (by kernel_rfl) hd63 Try.ntmps63 rfl H

noncomputable def rg83_0 : Array Oper := rawAt Try.f83 0
/-- math/bits.OnesCount32 -/
noncomputable def c83 : IC :=
  (.seq
  (.reg [
    ⟨some 2, .assign (.const (.int .i64 0)), none⟩])
  (.seq
  (.raw (.region 1 rg83_0 true))
  .ret))
theorem hd83 : Try.f83.body.map dec = some c83 := by kernel_rfl
theorem e83 {R : AV → AH → Prop} {h : AH} (x0 : AV) (H : h.wf → AI Try.prog c83 (RetQ Try.prog [.tmp 2] R) [x0, un, un, un, un, un, un, un, un, un, un, un, un, un, un, un, un, un, un, un, un] h) : AC Try.prog 83 [x0] h R :=
  AC_of' (rs := [.tmp 2]) Try.func83 (by kernel_rfl) hd83 Try.ntmps83 rfl H
theorem dr83_0 {Q : Exit → List AV → AH → Prop} {a : List AV} {h : AH} {id : Nat} (H : AX Try.prog false h [(⟨some 3, .move (.tmp 0), none⟩, true),
  (⟨some 4, .binOp .shr 92 (.tmp 3) (.const (.int .u64 24)) 77, none⟩, true),
  (⟨some 5, .index 9 (.const (.string { data := #[0, 1, 1, 2, 1, 2, 2, 3, 1, 2, 2, 3, 2, 3, 3, 4, 1, 2, 2, 3, 2, 3, 3, 4, 2, 3, 3, 4, 3, 4, 4, 5, 1, 2, 2, 3, 2, 3, 3, 4, 2, 3, 3, 4, 3, 4, 4, 5, 2, 3, 3, 4, 3, 4, 4, 5, 3, 4, 4, 5, 4, 5, 5, 6, 1, 2, 2, 3, 2, 3, 3, 4, 2, 3, 3, 4, 3, 4, 4, 5, 2, 3, 3, 4, 3, 4, 4, 5, 3, 4, 4, 5, 4, 5, 5, 6, 2, 3, 3, 4, 3, 4, 4, 5, 3, 4, 4, 5, 4, 5, 5, 6, 3, 4, 4, 5, 4, 5, 5, 6, 4, 5, 5, 6, 5, 6, 6, 7, 1, 2, 2, 3, 2, 3, 3, 4, 2, 3, 3, 4, 3, 4, 4, 5, 2, 3, 3, 4, 3, 4, 4, 5, 3, 4, 4, 5, 4, 5, 5, 6, 2, 3, 3, 4, 3, 4, 4, 5, 3, 4, 4, 5, 4, 5, 5, 6, 3, 4, 4, 5, 4, 5, 5, 6, 4, 5, 5, 6, 5, 6, 6, 7, 2, 3, 3, 4, 3, 4, 4, 5, 3, 4, 4, 5, 4, 5, 5, 6, 3, 4, 4, 5, 4, 5, 5, 6, 4, 5, 5, 6, 5, 6, 6, 7, 3, 4, 4, 5, 4, 5, 5, 6, 4, 5, 5, 6, 5, 6, 6, 7, 4, 5, 5, 6, 5, 6, 6, 7, 5, 6, 6, 7, 6, 7, 7, 8] })) (.tmp 4), none⟩, true),
  (⟨some 6, .move (.tmp 0), none⟩, true),
  (⟨some 7, .binOp .shr 92 (.tmp 6) (.const (.int .u64 16)) 77, none⟩, true),
  (⟨some 8, .binOp .and 92 (.tmp 7) (.const (.int .u32 255)) 92, none⟩, true),
  (⟨some 9, .index 9 (.const (.string { data := #[0, 1, 1, 2, 1, 2, 2, 3, 1, 2, 2, 3, 2, 3, 3, 4, 1, 2, 2, 3, 2, 3, 3, 4, 2, 3, 3, 4, 3, 4, 4, 5, 1, 2, 2, 3, 2, 3, 3, 4, 2, 3, 3, 4, 3, 4, 4, 5, 2, 3, 3, 4, 3, 4, 4, 5, 3, 4, 4, 5, 4, 5, 5, 6, 1, 2, 2, 3, 2, 3, 3, 4, 2, 3, 3, 4, 3, 4, 4, 5, 2, 3, 3, 4, 3, 4, 4, 5, 3, 4, 4, 5, 4, 5, 5, 6, 2, 3, 3, 4, 3, 4, 4, 5, 3, 4, 4, 5, 4, 5, 5, 6, 3, 4, 4, 5, 4, 5, 5, 6, 4, 5, 5, 6, 5, 6, 6, 7, 1, 2, 2, 3, 2, 3, 3, 4, 2, 3, 3, 4, 3, 4, 4, 5, 2, 3, 3, 4, 3, 4, 4, 5, 3, 4, 4, 5, 4, 5, 5, 6, 2, 3, 3, 4, 3, 4, 4, 5, 3, 4, 4, 5, 4, 5, 5, 6, 3, 4, 4, 5, 4, 5, 5, 6, 4, 5, 5, 6, 5, 6, 6, 7, 2, 3, 3, 4, 3, 4, 4, 5, 3, 4, 4, 5, 4, 5, 5, 6, 3, 4, 4, 5, 4, 5, 5, 6, 4, 5, 5, 6, 5, 6, 6, 7, 3, 4, 4, 5, 4, 5, 5, 6, 4, 5, 5, 6, 5, 6, 6, 7, 4, 5, 5, 6, 5, 6, 6, 7, 5, 6, 6, 7, 6, 7, 7, 8] })) (.tmp 8), none⟩, true),
  (⟨some 10, .binOp .add 5 (.tmp 5) (.tmp 9) 5, none⟩, true),
  (⟨some 11, .move (.tmp 0), none⟩, true),
  (⟨some 12, .binOp .shr 92 (.tmp 11) (.const (.int .u64 8)) 77, none⟩, true),
  (⟨some 13, .binOp .and 92 (.tmp 12) (.const (.int .u32 255)) 92, none⟩, true),
  (⟨some 14, .index 9 (.const (.string { data := #[0, 1, 1, 2, 1, 2, 2, 3, 1, 2, 2, 3, 2, 3, 3, 4, 1, 2, 2, 3, 2, 3, 3, 4, 2, 3, 3, 4, 3, 4, 4, 5, 1, 2, 2, 3, 2, 3, 3, 4, 2, 3, 3, 4, 3, 4, 4, 5, 2, 3, 3, 4, 3, 4, 4, 5, 3, 4, 4, 5, 4, 5, 5, 6, 1, 2, 2, 3, 2, 3, 3, 4, 2, 3, 3, 4, 3, 4, 4, 5, 2, 3, 3, 4, 3, 4, 4, 5, 3, 4, 4, 5, 4, 5, 5, 6, 2, 3, 3, 4, 3, 4, 4, 5, 3, 4, 4, 5, 4, 5, 5, 6, 3, 4, 4, 5, 4, 5, 5, 6, 4, 5, 5, 6, 5, 6, 6, 7, 1, 2, 2, 3, 2, 3, 3, 4, 2, 3, 3, 4, 3, 4, 4, 5, 2, 3, 3, 4, 3, 4, 4, 5, 3, 4, 4, 5, 4, 5, 5, 6, 2, 3, 3, 4, 3, 4, 4, 5, 3, 4, 4, 5, 4, 5, 5, 6, 3, 4, 4, 5, 4, 5, 5, 6, 4, 5, 5, 6, 5, 6, 6, 7, 2, 3, 3, 4, 3, 4, 4, 5, 3, 4, 4, 5, 4, 5, 5, 6, 3, 4, 4, 5, 4, 5, 5, 6, 4, 5, 5, 6, 5, 6, 6, 7, 3, 4, 4, 5, 4, 5, 5, 6, 4, 5, 5, 6, 5, 6, 6, 7, 4, 5, 5, 6, 5, 6, 6, 7, 5, 6, 6, 7, 6, 7, 7, 8] })) (.tmp 13), none⟩, true),
  (⟨some 15, .binOp .add 5 (.tmp 10) (.tmp 14) 5, none⟩, true),
  (⟨some 16, .move (.tmp 0), none⟩, true),
  (⟨some 17, .binOp .and 92 (.tmp 16) (.const (.int .u32 255)) 92, none⟩, true),
  (⟨some 18, .index 9 (.const (.string { data := #[0, 1, 1, 2, 1, 2, 2, 3, 1, 2, 2, 3, 2, 3, 3, 4, 1, 2, 2, 3, 2, 3, 3, 4, 2, 3, 3, 4, 3, 4, 4, 5, 1, 2, 2, 3, 2, 3, 3, 4, 2, 3, 3, 4, 3, 4, 4, 5, 2, 3, 3, 4, 3, 4, 4, 5, 3, 4, 4, 5, 4, 5, 5, 6, 1, 2, 2, 3, 2, 3, 3, 4, 2, 3, 3, 4, 3, 4, 4, 5, 2, 3, 3, 4, 3, 4, 4, 5, 3, 4, 4, 5, 4, 5, 5, 6, 2, 3, 3, 4, 3, 4, 4, 5, 3, 4, 4, 5, 4, 5, 5, 6, 3, 4, 4, 5, 4, 5, 5, 6, 4, 5, 5, 6, 5, 6, 6, 7, 1, 2, 2, 3, 2, 3, 3, 4, 2, 3, 3, 4, 3, 4, 4, 5, 2, 3, 3, 4, 3, 4, 4, 5, 3, 4, 4, 5, 4, 5, 5, 6, 2, 3, 3, 4, 3, 4, 4, 5, 3, 4, 4, 5, 4, 5, 5, 6, 3, 4, 4, 5, 4, 5, 5, 6, 4, 5, 5, 6, 5, 6, 6, 7, 2, 3, 3, 4, 3, 4, 4, 5, 3, 4, 4, 5, 4, 5, 5, 6, 3, 4, 4, 5, 4, 5, 5, 6, 4, 5, 5, 6, 5, 6, 6, 7, 3, 4, 4, 5, 4, 5, 5, 6, 4, 5, 5, 6, 5, 6, 6, 7, 4, 5, 5, 6, 5, 6, 6, 7, 5, 6, 6, 7, 6, 7, 7, 8] })) (.tmp 17), none⟩, true),
  (⟨some 19, .binOp .add 5 (.tmp 15) (.tmp 18) 5, none⟩, true),
  (⟨some 20, .convert 5 3 (.tmp 19), none⟩, true),
  (⟨some 2, .assign (.tmp 20), none⟩, true)] (fun a' h' => Q .normal a' h') a h) : AI Try.prog (.raw (.region id rg83_0 true)) Q a h :=
  AI_draw [(0, true), (1, true), (2, true), (3, true), (4, true), (5, true), (6, true), (7, true), (8, true), (9, true), (10, true), (11, true), (12, true), (13, true), (14, true), (15, true), (16, true), (17, true), (18, true)] false (by kernel_rfl) (by kernel_rfl) (by kernel_rfl) H

/-- math/bits.OnesCount64 -/
def c84 : IC :=
  (.seq
  (.reg [
    ⟨some 2, .assign (.const (.int .i64 0)), none⟩])
  (.seq
  (.reg [
    ⟨some 3, .move (.tmp 0), none⟩,
    ⟨some 4, .binOp .shr 82 (.tmp 3) (.const (.int .u64 1)) 77, none⟩,
    ⟨some 5, .binOp .and 82 (.tmp 4) (.const (.int .u64 6148914691236517205)) 82, none⟩,
    ⟨some 6, .move (.tmp 0), none⟩,
    ⟨some 7, .binOp .and 82 (.tmp 6) (.const (.int .u64 6148914691236517205)) 82, none⟩,
    ⟨some 8, .binOp .add 82 (.tmp 5) (.tmp 7) 82, none⟩,
    ⟨some 0, .assign (.tmp 8), none⟩])
  (.seq
  (.reg [
    ⟨some 9, .move (.tmp 0), none⟩,
    ⟨some 10, .binOp .shr 82 (.tmp 9) (.const (.int .u64 2)) 77, none⟩,
    ⟨some 11, .binOp .and 82 (.tmp 10) (.const (.int .u64 3689348814741910323)) 82, none⟩,
    ⟨some 12, .move (.tmp 0), none⟩,
    ⟨some 13, .binOp .and 82 (.tmp 12) (.const (.int .u64 3689348814741910323)) 82, none⟩,
    ⟨some 14, .binOp .add 82 (.tmp 11) (.tmp 13) 82, none⟩,
    ⟨some 0, .assign (.tmp 14), none⟩])
  (.seq
  (.reg [
    ⟨some 15, .move (.tmp 0), none⟩,
    ⟨some 16, .binOp .shr 82 (.tmp 15) (.const (.int .u64 4)) 77, none⟩,
    ⟨some 17, .move (.tmp 0), none⟩,
    ⟨some 18, .binOp .add 82 (.tmp 16) (.tmp 17) 82, none⟩,
    ⟨some 19, .binOp .and 82 (.tmp 18) (.const (.int .u64 1085102592571150095)) 82, none⟩,
    ⟨some 0, .assign (.tmp 19), none⟩])
  (.seq
  (.reg [
    ⟨some 20, .move (.tmp 0), none⟩,
    ⟨some 21, .move (.tmp 0), none⟩,
    ⟨some 22, .binOp .shr 82 (.tmp 21) (.const (.int .u64 8)) 77, none⟩,
    ⟨some 23, .binOp .add 82 (.tmp 20) (.tmp 22) 82, none⟩,
    ⟨some 0, .assign (.tmp 23), none⟩])
  (.seq
  (.reg [
    ⟨some 24, .move (.tmp 0), none⟩,
    ⟨some 25, .move (.tmp 0), none⟩,
    ⟨some 26, .binOp .shr 82 (.tmp 25) (.const (.int .u64 16)) 77, none⟩,
    ⟨some 27, .binOp .add 82 (.tmp 24) (.tmp 26) 82, none⟩,
    ⟨some 0, .assign (.tmp 27), none⟩])
  (.seq
  (.reg [
    ⟨some 28, .move (.tmp 0), none⟩,
    ⟨some 29, .move (.tmp 0), none⟩,
    ⟨some 30, .binOp .shr 82 (.tmp 29) (.const (.int .u64 32)) 77, none⟩,
    ⟨some 31, .binOp .add 82 (.tmp 28) (.tmp 30) 82, none⟩,
    ⟨some 0, .assign (.tmp 31), none⟩])
  (.seq
  (.reg [
    ⟨some 32, .move (.tmp 0), none⟩,
    ⟨some 33, .convert 82 3 (.tmp 32), none⟩,
    ⟨some 34, .binOp .and 3 (.tmp 33) (.const (.int .i64 127)) 3, none⟩,
    ⟨some 2, .assign (.tmp 34), none⟩])
  .ret))))))))
theorem hd84 : Try.f84.body.map dec = some c84 := by kernel_rfl
theorem e84 {R : AV → AH → Prop} {h : AH} (x0 : AV) (H : h.wf → AI Try.prog c84 (RetQ Try.prog [.tmp 2] R) [x0, un, un, un, un, un, un, un, un, un, un, un, un, un, un, un, un, un, un, un, un, un, un, un, un, un, un, un, un, un, un, un, un, un, un] h) : AC Try.prog 84 [x0] h R :=
  AC_of' (rs := [.tmp 2]) Try.func84 (by kernel_rfl) hd84 Try.ntmps84 rfl H

/-- math/bits.OnesCount -/
def c64 : IC :=
  (.seq
  (.reg [
    ⟨some 2, .assign (.const (.int .i64 0)), none⟩])
  (.seq
  (.cond (.const (.bool false))
    (.seq
    (.reg [
      ⟨some 3, .move (.tmp 0), none⟩,
      ⟨some 4, .convert 77 92 (.tmp 3), none⟩,
      ⟨some 5, .call { callee := .value (.func 83), args := #[.tmp 4], argTypes := #[92] }, none⟩,
      ⟨some 2, .assign (.tmp 5), none⟩])
    .ret)
    .skip)
  (.seq
  (.reg [
    ⟨some 6, .move (.tmp 0), none⟩,
    ⟨some 7, .call { callee := .value (.func 84), args := #[.tmp 6], argTypes := #[82] }, none⟩,
    ⟨some 2, .assign (.tmp 7), none⟩])
  .ret)))
theorem hd64 : Try.f64.body.map dec = some c64 := by kernel_rfl
theorem e64 {R : AV → AH → Prop} {h : AH} (x0 : AV) (H : h.wf → AI Try.prog c64 (RetQ Try.prog [.tmp 2] R) [x0, un, un, un, un, un, un, un] h) : AC Try.prog 64 [x0] h R :=
  AC_of' (rs := [.tmp 2]) Try.func64 (by kernel_rfl) hd64 Try.ntmps64 rfl H

/-- impl.UpperBound -/
def c25 : IC :=
  (.seq
  (.reg [
    ⟨some 2, .assign (.const (.int .i64 0)), none⟩,
    ⟨some 3, .assign (.const (.bool false)), none⟩])
  (.seq
  (.seq
  (.reg [
    ⟨some 4, .move (.tmp 0), none⟩,
    ⟨some 5, .call { callee := .value (.func 62), args := #[.tmp 4], argTypes := #[3] }, none⟩,
    ⟨some 6, .unOp .not 4 (.tmp 5), none⟩])
  (.cond (.tmp 6)
    (.seq
    (.reg [
      ⟨some 2, .assign (.const (.int .i64 0)), none⟩,
      ⟨some 3, .assign (.const (.bool false)), none⟩])
    .ret)
    .skip))
  (.seq
  (.reg [
    ⟨some 7, .move (.tmp 0), none⟩,
    ⟨some 8, .convert 3 77 (.tmp 7), none⟩,
    ⟨some 9, .call { callee := .value (.func 63), args := #[.tmp 8], argTypes := #[77] }, none⟩,
    ⟨some 10, .move (.tmp 0), none⟩,
    ⟨some 11, .convert 3 77 (.tmp 10), none⟩,
    ⟨some 12, .call { callee := .value (.func 64), args := #[.tmp 11], argTypes := #[77] }, none⟩,
    ⟨some 13, .binOp .add 3 (.tmp 9) (.tmp 12) 3, none⟩,
    ⟨some 14, .binOp .sub 3 (.tmp 13) (.const (.int .i64 2)) 3, none⟩,
    ⟨some 2, .assign (.tmp 14), none⟩,
    ⟨some 3, .assign (.const (.bool true)), none⟩])
  .ret)))
theorem hd25 : Try.f25.body.map dec = some c25 := by kernel_rfl
theorem e25 {R : AV → AH → Prop} {h : AH} (x0 : AV) (H : h.wf → AI Try.prog c25 (RetQ Try.prog [.tmp 2, .tmp 3] R) [x0, un, un, un, un, un, un, un, un, un, un, un, un, un, un] h) : AC Try.prog 25 [x0] h R :=
  AC_of' (rs := [.tmp 2, .tmp 3]) Try.func25 (by kernel_rfl) hd25 Try.ntmps25 rfl H

/-- laws.FnExactUpperBound -/
def c7 : IC :=
  (.seq
  (.reg [
    ⟨some 2, .assign (.const (.bool false)), none⟩])
  (.seq
  (.reg [
    ⟨some 8, .move (.tmp 0), none⟩,
    ⟨some 9, .call { callee := .value (.func 24), args := #[.tmp 8], argTypes := #[3] }, none⟩,
    ⟨some 7, .move (.tmp 9), none⟩,
    ⟨some 10, .extract (.tmp 7) 0, none⟩,
    ⟨some 11, .extract (.tmp 7) 1, none⟩,
    ⟨some 3, .assign (.tmp 10), none⟩,
    ⟨some 4, .assign (.tmp 11), none⟩])
  (.seq
  (.reg [
    ⟨some 13, .move (.tmp 0), none⟩,
    ⟨some 14, .call { callee := .value (.func 25), args := #[.tmp 13], argTypes := #[3] }, none⟩,
    ⟨some 12, .move (.tmp 14), none⟩,
    ⟨some 15, .extract (.tmp 12) 0, none⟩,
    ⟨some 16, .extract (.tmp 12) 1, none⟩,
    ⟨some 5, .assign (.tmp 15), none⟩,
    ⟨some 6, .assign (.tmp 16), none⟩])
  (.seq
  (.seq
  (.reg [
    ⟨some 17, .move (.tmp 5), none⟩,
    ⟨some 18, .move (.tmp 3), none⟩,
    ⟨some 19, .binOp .neq 3 (.tmp 17) (.tmp 18) 3, none⟩,
    ⟨some 20, .move (.tmp 19), none⟩,
    ⟨some 21, .move (.tmp 6), some (20, false)⟩,
    ⟨some 22, .move (.tmp 4), some (20, false)⟩,
    ⟨some 23, .binOp .neq 4 (.tmp 21) (.tmp 22) 4, some (20, false)⟩,
    ⟨some 24, .pick (.tmp 20) (.const (.bool true)) (.tmp 23), none⟩])
  (.cond (.tmp 24)
    (.seq
    (.reg [
      ⟨some 2, .assign (.const (.bool false)), none⟩])
    .ret)
    .skip))
  (.seq
  (.reg [
    ⟨some 2, .assign (.const (.bool true)), none⟩])
  .ret)))))
theorem hd7 : Try.f7.body.map dec = some c7 := by kernel_rfl
theorem e7 {R : AV → AH → Prop} {h : AH} (x0 : AV) (H : h.wf → AI Try.prog c7 (RetQ Try.prog [.tmp 2] R) [x0, un, un, un, un, un, un, un, un, un, un, un, un, un, un, un, un, un, un, un, un, un, un, un, un] h) : AC Try.prog 7 [x0] h R :=
  AC_of' (rs := [.tmp 2]) Try.func7 (by kernel_rfl) hd7 Try.ntmps7 rfl H

end Go.Proofs.Ytfgealbhigkddaa
