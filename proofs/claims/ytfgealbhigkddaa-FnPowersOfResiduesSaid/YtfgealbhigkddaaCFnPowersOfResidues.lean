/- The short forms of the functions' code, and facts on types. -/
import Derived.Test.YtfgealbhigkddaaProg
import Derived.Test.YtfgealbhigkddaaD2
namespace Go.Proofs.Ytfgealbhigkddaa
open Go.AL
set_option linter.unusedVariables false
theorem sz0 : szT Try.prog 0 = some 1 := by kernel_rfl
theorem by0 : byT Try.prog 0 = some 0 := by kernel_rfl
theorem ag0 : aggT Try.prog 0 = some false := by kernel_rfl
instance jsz0 : Tsz Try.prog 0 1 := ⟨sz0⟩
instance jby0 : Tby Try.prog 0 0 := ⟨by0⟩
instance jag0 : Tag Try.prog 0 false := ⟨ag0⟩
theorem sz1 : szT Try.prog 1 = some 1 := by kernel_rfl
theorem by1 : byT Try.prog 1 = some 8 := by kernel_rfl
theorem ag1 : aggT Try.prog 1 = some false := by kernel_rfl
instance jsz1 : Tsz Try.prog 1 1 := ⟨sz1⟩
instance jby1 : Tby Try.prog 1 8 := ⟨by1⟩
instance jag1 : Tag Try.prog 1 false := ⟨ag1⟩
theorem ze1 : zeroA Try.prog 1 = some .nf := by kernel_rfl
instance jze1 : Tze Try.prog 1 (.nf) := ⟨ze1⟩
theorem sz2 : szT Try.prog 2 = some 1 := by kernel_rfl
theorem by2 : byT Try.prog 2 = some 8 := by kernel_rfl
theorem ag2 : aggT Try.prog 2 = some false := by kernel_rfl
instance jsz2 : Tsz Try.prog 2 1 := ⟨sz2⟩
instance jby2 : Tby Try.prog 2 8 := ⟨by2⟩
instance jag2 : Tag Try.prog 2 false := ⟨ag2⟩
instance jik2 : Tik Try.prog 2 .i64 := ⟨Try.underlying2⟩
theorem ze2 : zeroA Try.prog 2 = some (.i .i64 0) := by kernel_rfl
instance jze2 : Tze Try.prog 2 (.i .i64 0) := ⟨ze2⟩
theorem sz3 : szT Try.prog 3 = some 1 := by kernel_rfl
theorem by3 : byT Try.prog 3 = some 8 := by kernel_rfl
theorem ag3 : aggT Try.prog 3 = some false := by kernel_rfl
instance jsz3 : Tsz Try.prog 3 1 := ⟨sz3⟩
instance jby3 : Tby Try.prog 3 8 := ⟨by3⟩
instance jag3 : Tag Try.prog 3 false := ⟨ag3⟩
instance jik3 : Tik Try.prog 3 .i64 := ⟨Try.underlying3⟩
theorem ze3 : zeroA Try.prog 3 = some (.i .i64 0) := by kernel_rfl
instance jze3 : Tze Try.prog 3 (.i .i64 0) := ⟨ze3⟩
theorem sz4 : szT Try.prog 4 = some 1 := by kernel_rfl
theorem by4 : byT Try.prog 4 = some 1 := by kernel_rfl
theorem ag4 : aggT Try.prog 4 = some false := by kernel_rfl
instance jsz4 : Tsz Try.prog 4 1 := ⟨sz4⟩
instance jby4 : Tby Try.prog 4 1 := ⟨by4⟩
instance jag4 : Tag Try.prog 4 false := ⟨ag4⟩
instance jbo4 : Tbo Try.prog 4 := ⟨Try.underlying4⟩
theorem ze4 : zeroA Try.prog 4 = some (.b false) := by kernel_rfl
instance jze4 : Tze Try.prog 4 (.b false) := ⟨ze4⟩
theorem sz5 : szT Try.prog 5 = some 1 := by kernel_rfl
theorem by5 : byT Try.prog 5 = some 1 := by kernel_rfl
theorem ag5 : aggT Try.prog 5 = some false := by kernel_rfl
instance jsz5 : Tsz Try.prog 5 1 := ⟨sz5⟩
instance jby5 : Tby Try.prog 5 1 := ⟨by5⟩
instance jag5 : Tag Try.prog 5 false := ⟨ag5⟩
instance jik5 : Tik Try.prog 5 .u8 := ⟨Try.underlying5⟩
theorem ze5 : zeroA Try.prog 5 = some (.i .u8 0) := by kernel_rfl
instance jze5 : Tze Try.prog 5 (.i .u8 0) := ⟨ze5⟩
theorem sz6 : szT Try.prog 6 = some 1 := by kernel_rfl
theorem by6 : byT Try.prog 6 = some 1 := by kernel_rfl
theorem ag6 : aggT Try.prog 6 = some false := by kernel_rfl
instance jsz6 : Tsz Try.prog 6 1 := ⟨sz6⟩
instance jby6 : Tby Try.prog 6 1 := ⟨by6⟩
instance jag6 : Tag Try.prog 6 false := ⟨ag6⟩
instance jik6 : Tik Try.prog 6 .u8 := ⟨Try.underlying6⟩
theorem ze6 : zeroA Try.prog 6 = some (.i .u8 0) := by kernel_rfl
instance jze6 : Tze Try.prog 6 (.i .u8 0) := ⟨ze6⟩
theorem sz25 : szT Try.prog 25 = some 1 := by kernel_rfl
theorem by25 : byT Try.prog 25 = some 24 := by kernel_rfl
theorem ag25 : aggT Try.prog 25 = some false := by kernel_rfl
instance jsz25 : Tsz Try.prog 25 1 := ⟨sz25⟩
instance jby25 : Tby Try.prog 25 24 := ⟨by25⟩
instance jag25 : Tag Try.prog 25 false := ⟨ag25⟩
instance jsl25 : Tsl Try.prog 25 3 := ⟨Try.underlying25⟩
theorem ze25 : zeroA Try.prog 25 = some .ns := by kernel_rfl
instance jze25 : Tze Try.prog 25 (.ns) := ⟨ze25⟩
theorem sz41 : szT Try.prog 41 = some 1 := by kernel_rfl
theorem by41 : byT Try.prog 41 = some 8 := by kernel_rfl
theorem ag41 : aggT Try.prog 41 = some false := by kernel_rfl
instance jsz41 : Tsz Try.prog 41 1 := ⟨sz41⟩
instance jby41 : Tby Try.prog 41 8 := ⟨by41⟩
instance jag41 : Tag Try.prog 41 false := ⟨ag41⟩
theorem ze41 : zeroA Try.prog 41 = some .nf := by kernel_rfl
instance jze41 : Tze Try.prog 41 (.nf) := ⟨ze41⟩
theorem sz49 : szT Try.prog 49 = some 1 := by kernel_rfl
theorem by49 : byT Try.prog 49 = some 24 := by kernel_rfl
theorem ag49 : aggT Try.prog 49 = some false := by kernel_rfl
instance jsz49 : Tsz Try.prog 49 1 := ⟨sz49⟩
instance jby49 : Tby Try.prog 49 24 := ⟨by49⟩
instance jag49 : Tag Try.prog 49 false := ⟨ag49⟩
instance jsl49 : Tsl Try.prog 49 5 := ⟨Try.underlying49⟩
theorem ze49 : zeroA Try.prog 49 = some .ns := by kernel_rfl
instance jze49 : Tze Try.prog 49 (.ns) := ⟨ze49⟩
theorem sz65 : szT Try.prog 65 = some 1 := by kernel_rfl
theorem by65 : byT Try.prog 65 = some 8 := by kernel_rfl
theorem ag65 : aggT Try.prog 65 = some false := by kernel_rfl
instance jsz65 : Tsz Try.prog 65 1 := ⟨sz65⟩
instance jby65 : Tby Try.prog 65 8 := ⟨by65⟩
instance jag65 : Tag Try.prog 65 false := ⟨ag65⟩
theorem ze65 : zeroA Try.prog 65 = some .nf := by kernel_rfl
instance jze65 : Tze Try.prog 65 (.nf) := ⟨ze65⟩
theorem sz81 : szT Try.prog 81 = some 1 := by kernel_rfl
theorem by81 : byT Try.prog 81 = some 8 := by kernel_rfl
theorem ag81 : aggT Try.prog 81 = some false := by kernel_rfl
instance jsz81 : Tsz Try.prog 81 1 := ⟨sz81⟩
instance jby81 : Tby Try.prog 81 8 := ⟨by81⟩
instance jag81 : Tag Try.prog 81 false := ⟨ag81⟩
theorem ze81 : zeroA Try.prog 81 = some .np := by kernel_rfl
instance jze81 : Tze Try.prog 81 (.np) := ⟨ze81⟩
theorem sz82 : szT Try.prog 82 = some 1 := by kernel_rfl
theorem by82 : byT Try.prog 82 = some 8 := by kernel_rfl
theorem ag82 : aggT Try.prog 82 = some false := by kernel_rfl
instance jsz82 : Tsz Try.prog 82 1 := ⟨sz82⟩
instance jby82 : Tby Try.prog 82 8 := ⟨by82⟩
instance jag82 : Tag Try.prog 82 false := ⟨ag82⟩
instance jik82 : Tik Try.prog 82 .u64 := ⟨Try.underlying82⟩
theorem ze82 : zeroA Try.prog 82 = some (.i .u64 0) := by kernel_rfl
instance jze82 : Tze Try.prog 82 (.i .u64 0) := ⟨ze82⟩
theorem sz84 : szT Try.prog 84 = some 3 := by kernel_rfl
theorem by84 : byT Try.prog 84 = some 40 := by kernel_rfl
theorem ag84 : aggT Try.prog 84 = some true := by kernel_rfl
instance jsz84 : Tsz Try.prog 84 3 := ⟨sz84⟩
instance jby84 : Tby Try.prog 84 40 := ⟨by84⟩
instance jag84 : Tag Try.prog 84 true := ⟨ag84⟩
theorem ze84 : zeroA Try.prog 84 = some (.agg [.ns, (.i .i64 0), (.i .u64 0)]) := by kernel_rfl
instance jze84 : Tze Try.prog 84 (.agg [.ns, (.i .i64 0), (.i .u64 0)]) := ⟨ze84⟩
theorem fl84_0 : fldA Try.prog 84 0 = some (0, 1, false) := by kernel_rfl
instance jfl84_0 : Tfl Try.prog 84 0 0 1 false := ⟨fl84_0⟩
theorem fl84_1 : fldA Try.prog 84 1 = some (1, 1, false) := by kernel_rfl
instance jfl84_1 : Tfl Try.prog 84 1 1 1 false := ⟨fl84_1⟩
theorem fl84_2 : fldA Try.prog 84 2 = some (2, 1, false) := by kernel_rfl
instance jfl84_2 : Tfl Try.prog 84 2 2 1 false := ⟨fl84_2⟩
theorem pa84 : plA Try.prog 84 = some [(0, 1), (1, 1), (2, 1)] := by kernel_rfl
instance jpl84 : Tpl Try.prog 84 [(0, 1), (1, 1), (2, 1)] := ⟨pa84⟩

/-- spec.l1In -/
def c42 : IC :=
  (.seq
  (.reg [
    ⟨some 6, .assign (.const (.bool false)), none⟩])
  (.seq
  (.reg [
    ⟨some 7, .move (.tmp 0), none⟩,
    ⟨some 8, .move (.tmp 1), none⟩,
    ⟨some 9, .binOp .geq 3 (.tmp 7) (.tmp 8) 3, none⟩,
    ⟨some 10, .move (.tmp 9), none⟩,
    ⟨some 11, .move (.tmp 0), some (10, true)⟩,
    ⟨some 12, .move (.tmp 2), some (10, true)⟩,
    ⟨some 13, .binOp .leq 3 (.tmp 11) (.tmp 12) 3, some (10, true)⟩,
    ⟨some 14, .pick (.tmp 10) (.tmp 13) (.const (.bool false)), none⟩,
    ⟨some 6, .assign (.tmp 14), none⟩])
  .ret))
theorem hd42 : Try.f42.body.map dec = some c42 := by kernel_rfl
theorem e42 {R : AV → AH → Prop} {h : AH} (x0 x1 x2 : AV) (H : h.wf → AI Try.prog c42 (RetQ Try.prog [.tmp 6] R) [x0, x1, x2, un, un, un, un, un, un, un, un, un, un, un, un] h) : AC Try.prog 42 [x0, x1, x2] h R :=
  AC_of' (rs := [.tmp 6]) Try.func42 (by kernel_rfl) hd42 Try.ntmps42 rfl H

/-- spec.moModulus -/
def c41 : IC :=
  (.seq
  (.reg [
    ⟨some 2, .assign (.const (.bool false)), none⟩])
  (.seq
  (.reg [
    ⟨some 3, .move (.tmp 0), none⟩,
    ⟨some 4, .call { callee := .value (.func 42), args := #[.tmp 3, .const (.int .i64 2), .const (.int .i64 10000)], argTypes := #[3, 3, 3] }, none⟩,
    ⟨some 2, .assign (.tmp 4), none⟩])
  .ret))
theorem hd41 : Try.f41.body.map dec = some c41 := by kernel_rfl
theorem e41 {R : AV → AH → Prop} {h : AH} (x0 : AV) (H : h.wf → AI Try.prog c41 (RetQ Try.prog [.tmp 2] R) [x0, un, un, un, un] h) : AC Try.prog 41 [x0] h R :=
  AC_of' (rs := [.tmp 2]) Try.func41 (by kernel_rfl) hd41 Try.ntmps41 rfl H

/-- spec.OrderModulo -/
def c12 : IC :=
  (.seq
  (.reg [
    ⟨some 4, .assign (.const (.int .i64 0)), none⟩,
    ⟨some 5, .assign (.const (.bool false)), none⟩])
  (.seq
  (.seq
  (.reg [
    ⟨some 8, .move (.tmp 1), none⟩,
    ⟨some 9, .call { callee := .value (.func 41), args := #[.tmp 8], argTypes := #[3] }, none⟩,
    ⟨some 10, .unOp .not 4 (.tmp 9), none⟩,
    ⟨some 11, .move (.tmp 10), none⟩,
    ⟨some 12, .move (.tmp 0), some (11, false)⟩,
    ⟨some 13, .move (.tmp 1), some (11, false)⟩,
    ⟨some 14, .binOp .sub 3 (.tmp 13) (.const (.int .i64 1)) 3, some (11, false)⟩,
    ⟨some 15, .call { callee := .value (.func 42), args := #[.tmp 12, .const (.int .i64 0), .tmp 14], argTypes := #[3, 3, 3] }, some (11, false)⟩,
    ⟨some 16, .unOp .not 4 (.tmp 15), some (11, false)⟩,
    ⟨some 17, .pick (.tmp 11) (.const (.bool true)) (.tmp 16), none⟩])
  (.cond (.tmp 17)
    (.seq
    (.reg [
      ⟨some 4, .assign (.const (.int .i64 0)), none⟩,
      ⟨some 5, .assign (.const (.bool false)), none⟩])
    .ret)
    .skip))
  (.seq
  (.reg [
    ⟨some 18, .move (.tmp 0), none⟩,
    ⟨some 6, .assign (.tmp 18), none⟩])
  (.seq
  (.seq
  (.reg [
    ⟨some 7, .assign (.const (.int .i64 1)), none⟩])
  (.block 0
  (.loop
    (.seq
    (.seq
    (.reg [
      ⟨some 19, .move (.tmp 7), none⟩,
      ⟨some 20, .move (.tmp 1), none⟩,
      ⟨some 21, .binOp .leq 3 (.tmp 19) (.tmp 20) 3, none⟩])
    (.cond (.tmp 21)
      .skip
      (.exit 0)))
    (.seq
    (.block 1
    (.seq
    (.seq
    (.reg [
      ⟨some 24, .move (.tmp 6), none⟩,
      ⟨some 25, .binOp .eql 3 (.tmp 24) (.const (.int .i64 1)) 3, none⟩])
    (.cond (.tmp 25)
      (.seq
      (.reg [
        ⟨some 26, .move (.tmp 7), none⟩,
        ⟨some 4, .assign (.tmp 26), none⟩,
        ⟨some 5, .assign (.const (.bool true)), none⟩])
      .ret)
      .skip))
    (.reg [
      ⟨some 27, .move (.tmp 6), none⟩,
      ⟨some 28, .move (.tmp 0), none⟩,
      ⟨some 29, .binOp .mul 3 (.tmp 27) (.tmp 28) 3, none⟩,
      ⟨some 30, .move (.tmp 1), none⟩,
      ⟨some 31, .binOp .rem 3 (.tmp 29) (.tmp 30) 3, none⟩,
      ⟨some 6, .assign (.tmp 31), none⟩])))
    (.reg [
      ⟨some 22, .move (.tmp 7), none⟩,
      ⟨some 23, .binOp .add 3 (.tmp 22) (.const (.int .i64 1)) 3, none⟩,
      ⟨some 7, .assign (.tmp 23), none⟩]))))))
  (.seq
  (.reg [
    ⟨some 4, .assign (.const (.int .i64 0)), none⟩,
    ⟨some 5, .assign (.const (.bool false)), none⟩])
  .ret)))))
theorem hd12 : Try.f12.body.map dec = some c12 := by kernel_rfl
theorem e12 {R : AV → AH → Prop} {h : AH} (x0 x1 : AV) (H : h.wf → AI Try.prog c12 (RetQ Try.prog [.tmp 4, .tmp 5] R) [x0, x1, un, un, un, un, un, un, un, un, un, un, un, un, un, un, un, un, un, un, un, un, un, un, un, un, un, un, un, un, un, un] h) : AC Try.prog 12 [x0, x1] h R :=
  AC_of' (rs := [.tmp 4, .tmp 5]) Try.func12 (by kernel_rfl) hd12 Try.ntmps12 rfl H

/-- slices.IndexFunc[[]int,int] -/
def c78 : IC :=
  (.seq
  (.reg [
    ⟨some 4, .assign (.const (.int .i64 0)), none⟩])
  (.seq
  (.seq
  (.reg [
    ⟨some 6, .move (.tmp 0), none⟩,
    ⟨some 7, .call { callee := .builtin .len, args := #[.tmp 6], argTypes := #[25] }, none⟩,
    ⟨some 8, .move (.const (.int .i64 0)), none⟩])
  (.block 0
  (.loop
    (.seq
    (.reg [
      ⟨some 9, .binOp .lss 3 (.tmp 8) (.tmp 7) 3, none⟩])
    (.seq
    (.cond (.tmp 9)
      .skip
      (.exit 0))
    (.seq
    (.block 1
    (.seq
    (.reg [
      ⟨some 10, .move (.tmp 8), none⟩,
      ⟨some 5, .assign (.tmp 10), none⟩])
    (.seq
    (.reg [
      ⟨some 11, .move (.tmp 1), none⟩,
      ⟨some 12, .move (.tmp 0), none⟩,
      ⟨some 13, .move (.tmp 5), none⟩,
      ⟨some 14, .indexAddr 25 (.tmp 12) (.tmp 13), none⟩,
      ⟨some 15, .load 3 (.tmp 14), none⟩,
      ⟨some 16, .call { callee := .value (.tmp 11), args := #[.tmp 15], argTypes := #[3] }, none⟩])
    (.cond (.tmp 16)
      (.seq
      (.reg [
        ⟨some 17, .move (.tmp 5), none⟩,
        ⟨some 4, .assign (.tmp 17), none⟩])
      .ret)
      .skip))))
    (.reg [
      ⟨some 18, .binOp .add 3 (.tmp 8) (.const (.int .i64 1)) 3, none⟩,
      ⟨some 8, .move (.tmp 18), none⟩])))))))
  (.seq
  (.reg [
    ⟨some 4, .assign (.const (.int .i64 (-1))), none⟩])
  .ret)))
theorem hd78 : Try.f78.body.map dec = some c78 := by kernel_rfl
theorem e78 {R : AV → AH → Prop} {h : AH} (x0 x1 : AV) (H : h.wf → AI Try.prog c78 (RetQ Try.prog [.tmp 4] R) [x0, x1, un, un, un, un, un, un, un, un, un, un, un, un, un, un, un, un, un] h) : AC Try.prog 78 [x0, x1] h R :=
  AC_of' (rs := [.tmp 4]) Try.func78 (by kernel_rfl) hd78 Try.ntmps78 rfl H

/-- slices.ContainsFunc[[]int,int] -/
def c46 : IC :=
  (.seq
  (.reg [
    ⟨some 4, .assign (.const (.bool false)), none⟩])
  (.seq
  (.reg [
    ⟨some 5, .move (.tmp 0), none⟩,
    ⟨some 6, .move (.tmp 1), none⟩,
    ⟨some 7, .call { callee := .value (.func 78), args := #[.tmp 5, .tmp 6], argTypes := #[25, 41] }, none⟩,
    ⟨some 8, .binOp .geq 3 (.tmp 7) (.const (.int .i64 0)) 3, none⟩,
    ⟨some 4, .assign (.tmp 8), none⟩])
  .ret))
theorem hd46 : Try.f46.body.map dec = some c46 := by kernel_rfl
theorem e46 {R : AV → AH → Prop} {h : AH} (x0 x1 : AV) (H : h.wf → AI Try.prog c46 (RetQ Try.prog [.tmp 4] R) [x0, x1, un, un, un, un, un, un, un] h) : AC Try.prog 46 [x0, x1] h R :=
  AC_of' (rs := [.tmp 4]) Try.func46 (by kernel_rfl) hd46 Try.ntmps46 rfl H

/-- impl.in -/
def c49 : IC :=
  (.seq
  (.reg [
    ⟨some 6, .assign (.const (.bool false)), none⟩])
  (.seq
  (.reg [
    ⟨some 7, .move (.tmp 0), none⟩,
    ⟨some 8, .move (.tmp 1), none⟩,
    ⟨some 9, .binOp .geq 3 (.tmp 7) (.tmp 8) 3, none⟩,
    ⟨some 10, .move (.tmp 9), none⟩,
    ⟨some 11, .move (.tmp 0), some (10, true)⟩,
    ⟨some 12, .move (.tmp 2), some (10, true)⟩,
    ⟨some 13, .binOp .leq 3 (.tmp 11) (.tmp 12) 3, some (10, true)⟩,
    ⟨some 14, .pick (.tmp 10) (.tmp 13) (.const (.bool false)), none⟩,
    ⟨some 6, .assign (.tmp 14), none⟩])
  .ret))
theorem hd49 : Try.f49.body.map dec = some c49 := by kernel_rfl
theorem e49 {R : AV → AH → Prop} {h : AH} (x0 x1 x2 : AV) (H : h.wf → AI Try.prog c49 (RetQ Try.prog [.tmp 6] R) [x0, x1, x2, un, un, un, un, un, un, un, un, un, un, un, un] h) : AC Try.prog 49 [x0, x1, x2] h R :=
  AC_of' (rs := [.tmp 6]) Try.func49 (by kernel_rfl) hd49 Try.ntmps49 rfl H

/-- impl.modulusOk -/
def c76 : IC :=
  (.seq
  (.reg [
    ⟨some 2, .assign (.const (.bool false)), none⟩])
  (.seq
  (.reg [
    ⟨some 3, .move (.tmp 0), none⟩,
    ⟨some 4, .call { callee := .value (.func 49), args := #[.tmp 3, .const (.int .i64 2), .const (.int .i64 10000)], argTypes := #[3, 3, 3] }, none⟩,
    ⟨some 2, .assign (.tmp 4), none⟩])
  .ret))
theorem hd76 : Try.f76.body.map dec = some c76 := by kernel_rfl
theorem e76 {R : AV → AH → Prop} {h : AH} (x0 : AV) (H : h.wf → AI Try.prog c76 (RetQ Try.prog [.tmp 2] R) [x0, un, un, un, un] h) : AC Try.prog 76 [x0] h R :=
  AC_of' (rs := [.tmp 2]) Try.func76 (by kernel_rfl) hd76 Try.ntmps76 rfl H

/-- impl.residuesOk$1 -/
def c77 : IC :=
  (.seq
  (.reg [
    ⟨some 3, .assign (.const (.bool false)), none⟩])
  (.seq
  (.reg [
    ⟨some 4, .move (.tmp 0), none⟩,
    ⟨some 5, .load 3 (.tmp 1), none⟩,
    ⟨some 6, .binOp .sub 3 (.tmp 5) (.const (.int .i64 1)) 3, none⟩,
    ⟨some 7, .call { callee := .value (.func 49), args := #[.tmp 4, .const (.int .i64 0), .tmp 6], argTypes := #[3, 3, 3] }, none⟩,
    ⟨some 8, .unOp .not 4 (.tmp 7), none⟩,
    ⟨some 3, .assign (.tmp 8), none⟩])
  .ret))
theorem hd77 : Try.f77.body.map dec = some c77 := by kernel_rfl
theorem e77 {R : AV → AH → Prop} {h : AH} (x0 x1 : AV) (H : h.wf → AI Try.prog c77 (RetQ Try.prog [.tmp 3] R) [x0, x1, un, un, un, un, un, un, un] h) : AC Try.prog 77 [x0, x1] h R :=
  AC_of' (rs := [.tmp 3]) Try.func77 (by kernel_rfl) hd77 Try.ntmps77 rfl H

/-- impl.residuesOk -/
def c43 : IC :=
  (.seq
  (.reg [
    ⟨some 3, .box 3 (.tmp 1), none⟩,
    ⟨some 4, .assign (.const (.bool false)), none⟩])
  (.seq
  (.reg [
    ⟨some 5, .load 3 (.tmp 3), none⟩,
    ⟨some 6, .call { callee := .value (.func 76), args := #[.tmp 5], argTypes := #[3] }, none⟩,
    ⟨some 7, .move (.tmp 6), none⟩,
    ⟨some 8, .move (.tmp 0), some (7, true)⟩,
    ⟨some 9, .makeFunc (.func 77) #[] #[.tmp 3], some (7, true)⟩,
    ⟨some 10, .call { callee := .value (.func 46), args := #[.tmp 8, .tmp 9], argTypes := #[25, 41] }, some (7, true)⟩,
    ⟨some 11, .unOp .not 4 (.tmp 10), some (7, true)⟩,
    ⟨some 12, .pick (.tmp 7) (.tmp 11) (.const (.bool false)), none⟩,
    ⟨some 4, .assign (.tmp 12), none⟩])
  .ret))
theorem hd43 : Try.f43.body.map dec = some c43 := by kernel_rfl
theorem e43 {R : AV → AH → Prop} {h : AH} (x0 x1 : AV) (H : h.wf → AI Try.prog c43 (RetQ Try.prog [.tmp 4] R) [x0, x1, un, un, un, un, un, un, un, un, un, un, un] h) : AC Try.prog 43 [x0, x1] h R :=
  AC_of' (rs := [.tmp 4]) Try.func43 (by kernel_rfl) hd43 Try.ntmps43 rfl H

/-- impl.OrderModulo -/
def c13 : IC :=
  (.seq
  (.reg [
    ⟨some 4, .assign (.const (.int .i64 0)), none⟩,
    ⟨some 5, .assign (.const (.bool false)), none⟩])
  (.seq
  (.seq
  (.reg [
    ⟨some 8, .move (.tmp 0), none⟩,
    ⟨some 9, .buildSlice 25 1 #[(0, .tmp 8)], none⟩,
    ⟨some 10, .move (.tmp 1), none⟩,
    ⟨some 11, .call { callee := .value (.func 43), args := #[.tmp 9, .tmp 10], argTypes := #[25, 3] }, none⟩,
    ⟨some 12, .unOp .not 4 (.tmp 11), none⟩])
  (.cond (.tmp 12)
    (.seq
    (.reg [
      ⟨some 4, .assign (.const (.int .i64 0)), none⟩,
      ⟨some 5, .assign (.const (.bool false)), none⟩])
    .ret)
    .skip))
  (.seq
  (.seq
  (.reg [
    ⟨some 13, .move (.tmp 0), none⟩,
    ⟨some 6, .assign (.const (.int .i64 1)), none⟩,
    ⟨some 7, .assign (.tmp 13), none⟩])
  (.block 0
  (.loop
    (.seq
    (.seq
    (.reg [
      ⟨some 14, .move (.tmp 6), none⟩,
      ⟨some 15, .move (.tmp 1), none⟩,
      ⟨some 16, .binOp .leq 3 (.tmp 14) (.tmp 15) 3, none⟩])
    (.cond (.tmp 16)
      .skip
      (.exit 0)))
    (.seq
    (.block 1
    (.seq
    (.seq
    (.reg [
      ⟨some 19, .move (.tmp 7), none⟩,
      ⟨some 20, .binOp .eql 3 (.tmp 19) (.const (.int .i64 1)) 3, none⟩])
    (.cond (.tmp 20)
      (.seq
      (.reg [
        ⟨some 21, .move (.tmp 6), none⟩,
        ⟨some 4, .assign (.tmp 21), none⟩,
        ⟨some 5, .assign (.const (.bool true)), none⟩])
      .ret)
      .skip))
    (.reg [
      ⟨some 22, .move (.tmp 7), none⟩,
      ⟨some 23, .move (.tmp 0), none⟩,
      ⟨some 24, .binOp .mul 3 (.tmp 22) (.tmp 23) 3, none⟩,
      ⟨some 25, .move (.tmp 1), none⟩,
      ⟨some 26, .binOp .rem 3 (.tmp 24) (.tmp 25) 3, none⟩,
      ⟨some 7, .assign (.tmp 26), none⟩])))
    (.reg [
      ⟨some 17, .move (.tmp 6), none⟩,
      ⟨some 18, .binOp .add 3 (.tmp 17) (.const (.int .i64 1)) 3, none⟩,
      ⟨some 6, .assign (.tmp 18), none⟩]))))))
  (.seq
  (.reg [
    ⟨some 4, .assign (.const (.int .i64 0)), none⟩,
    ⟨some 5, .assign (.const (.bool false)), none⟩])
  .ret))))
theorem hd13 : Try.f13.body.map dec = some c13 := by kernel_rfl
theorem e13 {R : AV → AH → Prop} {h : AH} (x0 x1 : AV) (H : h.wf → AI Try.prog c13 (RetQ Try.prog [.tmp 4, .tmp 5] R) [x0, x1, un, un, un, un, un, un, un, un, un, un, un, un, un, un, un, un, un, un, un, un, un, un, un, un, un] h) : AC Try.prog 13 [x0, x1] h R :=
  AC_of' (rs := [.tmp 4, .tmp 5]) Try.func13 (by kernel_rfl) hd13 Try.ntmps13 rfl H

/-- spec.l1All -/
def c44 : IC :=
  (.seq
  (.reg [
    ⟨some 6, .assign (.const (.bool false)), none⟩])
  (.seq
  (.seq
  (.reg [
    ⟨some 9, .move (.tmp 0), none⟩,
    ⟨some 10, .call { callee := .builtin .len, args := #[.tmp 9], argTypes := #[25] }, none⟩,
    ⟨some 11, .move (.const (.int .i64 0)), none⟩])
  (.block 0
  (.loop
    (.seq
    (.reg [
      ⟨some 12, .binOp .lss 3 (.tmp 11) (.tmp 10) 3, none⟩])
    (.seq
    (.cond (.tmp 12)
      .skip
      (.exit 0))
    (.seq
    (.block 1
    (.seq
    (.reg [
      ⟨some 13, .indexAddr 25 (.tmp 9) (.tmp 11), none⟩,
      ⟨some 14, .load 3 (.tmp 13), none⟩,
      ⟨some 8, .assign (.tmp 14), none⟩])
    (.seq
    (.reg [
      ⟨some 15, .move (.tmp 8), none⟩,
      ⟨some 16, .move (.tmp 1), none⟩,
      ⟨some 17, .move (.tmp 2), none⟩,
      ⟨some 18, .call { callee := .value (.func 42), args := #[.tmp 15, .tmp 16, .tmp 17], argTypes := #[3, 3, 3] }, none⟩,
      ⟨some 19, .unOp .not 4 (.tmp 18), none⟩])
    (.cond (.tmp 19)
      (.seq
      (.reg [
        ⟨some 6, .assign (.const (.bool false)), none⟩])
      .ret)
      .skip))))
    (.reg [
      ⟨some 20, .binOp .add 3 (.tmp 11) (.const (.int .i64 1)) 3, none⟩,
      ⟨some 11, .move (.tmp 20), none⟩])))))))
  (.seq
  (.reg [
    ⟨some 6, .assign (.const (.bool true)), none⟩])
  .ret)))
theorem hd44 : Try.f44.body.map dec = some c44 := by kernel_rfl
theorem e44 {R : AV → AH → Prop} {h : AH} (x0 x1 x2 : AV) (H : h.wf → AI Try.prog c44 (RetQ Try.prog [.tmp 6] R) [x0, x1, x2, un, un, un, un, un, un, un, un, un, un, un, un, un, un, un, un, un, un] h) : AC Try.prog 44 [x0, x1, x2] h R :=
  AC_of' (rs := [.tmp 6]) Try.func44 (by kernel_rfl) hd44 Try.ntmps44 rfl H

/-- spec.moPower -/
def c45 : IC :=
  (.seq
  (.reg [
    ⟨some 6, .assign (.const (.int .i64 0)), none⟩])
  (.seq
  (.reg [
    ⟨some 8, .move (.tmp 2), none⟩,
    ⟨some 9, .binOp .rem 3 (.const (.int .i64 1)) (.tmp 8) 3, none⟩,
    ⟨some 7, .assign (.tmp 9), none⟩])
  (.seq
  (.block 0
  (.loop
    (.seq
    (.seq
    (.reg [
      ⟨some 10, .move (.tmp 1), none⟩,
      ⟨some 11, .binOp .gtr 3 (.tmp 10) (.const (.int .i64 0)) 3, none⟩])
    (.cond (.tmp 11)
      .skip
      (.exit 0)))
    (.seq
    (.block 1
    (.seq
    (.seq
    (.reg [
      ⟨some 14, .move (.tmp 1), none⟩,
      ⟨some 15, .binOp .rem 3 (.tmp 14) (.const (.int .i64 2)) 3, none⟩,
      ⟨some 16, .binOp .eql 3 (.tmp 15) (.const (.int .i64 1)) 3, none⟩])
    (.cond (.tmp 16)
      (.reg [
        ⟨some 17, .move (.tmp 7), none⟩,
        ⟨some 18, .move (.tmp 0), none⟩,
        ⟨some 19, .binOp .mul 3 (.tmp 17) (.tmp 18) 3, none⟩,
        ⟨some 20, .move (.tmp 2), none⟩,
        ⟨some 21, .binOp .rem 3 (.tmp 19) (.tmp 20) 3, none⟩,
        ⟨some 7, .assign (.tmp 21), none⟩])
      .skip))
    (.reg [
      ⟨some 22, .move (.tmp 0), none⟩,
      ⟨some 23, .move (.tmp 0), none⟩,
      ⟨some 24, .binOp .mul 3 (.tmp 22) (.tmp 23) 3, none⟩,
      ⟨some 25, .move (.tmp 2), none⟩,
      ⟨some 26, .binOp .rem 3 (.tmp 24) (.tmp 25) 3, none⟩,
      ⟨some 0, .assign (.tmp 26), none⟩])))
    (.reg [
      ⟨some 12, .move (.tmp 1), none⟩,
      ⟨some 13, .binOp .quo 3 (.tmp 12) (.const (.int .i64 2)) 3, none⟩,
      ⟨some 1, .assign (.tmp 13), none⟩])))))
  (.seq
  (.reg [
    ⟨some 27, .move (.tmp 7), none⟩,
    ⟨some 6, .assign (.tmp 27), none⟩])
  .ret))))
theorem hd45 : Try.f45.body.map dec = some c45 := by kernel_rfl
theorem e45 {R : AV → AH → Prop} {h : AH} (x0 x1 x2 : AV) (H : h.wf → AI Try.prog c45 (RetQ Try.prog [.tmp 6] R) [x0, x1, x2, un, un, un, un, un, un, un, un, un, un, un, un, un, un, un, un, un, un, un, un, un, un, un, un, un] h) : AC Try.prog 45 [x0, x1, x2] h R :=
  AC_of' (rs := [.tmp 6]) Try.func45 (by kernel_rfl) hd45 Try.ntmps45 rfl H

/-- spec.PowersModulo -/
def c14 : IC :=
  (.seq
  (.reg [
    ⟨some 6, .assign (.const (.int .i64 0)), none⟩,
    ⟨some 7, .assign (.const (.bool false)), none⟩])
  (.seq
  (.seq
  (.reg [
    ⟨some 11, .move (.tmp 1), none⟩,
    ⟨some 12, .call { callee := .value (.func 41), args := #[.tmp 11], argTypes := #[3] }, none⟩,
    ⟨some 13, .unOp .not 4 (.tmp 12), none⟩,
    ⟨some 14, .move (.tmp 13), none⟩,
    ⟨some 15, .move (.tmp 2), some (14, false)⟩,
    ⟨some 16, .call { callee := .builtin .len, args := #[.tmp 15], argTypes := #[25] }, some (14, false)⟩,
    ⟨some 17, .call { callee := .value (.func 42), args := #[.tmp 16, .const (.int .i64 1), .const (.int .i64 6)], argTypes := #[3, 3, 3] }, some (14, false)⟩,
    ⟨some 18, .unOp .not 4 (.tmp 17), some (14, false)⟩,
    ⟨some 19, .pick (.tmp 14) (.const (.bool true)) (.tmp 18), none⟩,
    ⟨some 20, .move (.tmp 19), none⟩,
    ⟨some 21, .move (.tmp 0), some (20, false)⟩,
    ⟨some 22, .call { callee := .builtin .len, args := #[.tmp 21], argTypes := #[25] }, some (20, false)⟩,
    ⟨some 23, .move (.tmp 2), some (20, false)⟩,
    ⟨some 24, .call { callee := .builtin .len, args := #[.tmp 23], argTypes := #[25] }, some (20, false)⟩,
    ⟨some 25, .binOp .neq 3 (.tmp 22) (.tmp 24) 3, some (20, false)⟩,
    ⟨some 26, .pick (.tmp 20) (.const (.bool true)) (.tmp 25), none⟩,
    ⟨some 27, .move (.tmp 26), none⟩,
    ⟨some 28, .move (.tmp 2), some (27, false)⟩,
    ⟨some 29, .move (.tmp 1), some (27, false)⟩,
    ⟨some 30, .binOp .sub 3 (.tmp 29) (.const (.int .i64 1)) 3, some (27, false)⟩,
    ⟨some 31, .call { callee := .value (.func 44), args := #[.tmp 28, .const (.int .i64 0), .tmp 30], argTypes := #[25, 3, 3] }, some (27, false)⟩,
    ⟨some 32, .unOp .not 4 (.tmp 31), some (27, false)⟩,
    ⟨some 33, .pick (.tmp 27) (.const (.bool true)) (.tmp 32), none⟩,
    ⟨some 34, .move (.tmp 33), none⟩,
    ⟨some 35, .move (.tmp 0), some (34, false)⟩,
    ⟨some 36, .call { callee := .value (.func 44), args := #[.tmp 35, .const (.int .i64 0), .const (.int .i64 1000000)], argTypes := #[25, 3, 3] }, some (34, false)⟩,
    ⟨some 37, .unOp .not 4 (.tmp 36), some (34, false)⟩,
    ⟨some 38, .pick (.tmp 34) (.const (.bool true)) (.tmp 37), none⟩])
  (.cond (.tmp 38)
    (.seq
    (.reg [
      ⟨some 6, .assign (.const (.int .i64 0)), none⟩,
      ⟨some 7, .assign (.const (.bool false)), none⟩])
    .ret)
    .skip))
  (.seq
  (.reg [
    ⟨some 8, .assign (.const (.int .i64 1)), none⟩])
  (.seq
  (.seq
  (.reg [
    ⟨some 39, .move (.tmp 2), none⟩,
    ⟨some 40, .call { callee := .builtin .len, args := #[.tmp 39], argTypes := #[25] }, none⟩,
    ⟨some 41, .move (.const (.int .i64 0)), none⟩])
  (.block 0
  (.loop
    (.seq
    (.reg [
      ⟨some 42, .binOp .lss 3 (.tmp 41) (.tmp 40) 3, none⟩])
    (.seq
    (.cond (.tmp 42)
      .skip
      (.exit 0))
    (.seq
    (.block 1
    (.seq
    (.reg [
      ⟨some 43, .move (.tmp 41), none⟩,
      ⟨some 44, .indexAddr 25 (.tmp 39) (.tmp 41), none⟩,
      ⟨some 45, .load 3 (.tmp 44), none⟩,
      ⟨some 9, .assign (.tmp 43), none⟩,
      ⟨some 10, .assign (.tmp 45), none⟩])
    (.reg [
      ⟨some 46, .move (.tmp 8), none⟩,
      ⟨some 47, .move (.tmp 10), none⟩,
      ⟨some 48, .move (.tmp 0), none⟩,
      ⟨some 49, .move (.tmp 9), none⟩,
      ⟨some 50, .indexAddr 25 (.tmp 48) (.tmp 49), none⟩,
      ⟨some 51, .load 3 (.tmp 50), none⟩,
      ⟨some 52, .move (.tmp 1), none⟩,
      ⟨some 53, .call { callee := .value (.func 45), args := #[.tmp 47, .tmp 51, .tmp 52], argTypes := #[3, 3, 3] }, none⟩,
      ⟨some 54, .binOp .mul 3 (.tmp 46) (.tmp 53) 3, none⟩,
      ⟨some 55, .move (.tmp 1), none⟩,
      ⟨some 56, .binOp .rem 3 (.tmp 54) (.tmp 55) 3, none⟩,
      ⟨some 8, .assign (.tmp 56), none⟩])))
    (.reg [
      ⟨some 57, .binOp .add 3 (.tmp 41) (.const (.int .i64 1)) 3, none⟩,
      ⟨some 41, .move (.tmp 57), none⟩])))))))
  (.seq
  (.reg [
    ⟨some 58, .move (.tmp 8), none⟩,
    ⟨some 6, .assign (.tmp 58), none⟩,
    ⟨some 7, .assign (.const (.bool true)), none⟩])
  .ret)))))
theorem hd14 : Try.f14.body.map dec = some c14 := by kernel_rfl
theorem e14 {R : AV → AH → Prop} {h : AH} (x0 x1 x2 : AV) (H : h.wf → AI Try.prog c14 (RetQ Try.prog [.tmp 6, .tmp 7] R) [x0, x1, x2, un, un, un, un, un, un, un, un, un, un, un, un, un, un, un, un, un, un, un, un, un, un, un, un, un, un, un, un, un, un, un, un, un, un, un, un, un, un, un, un, un, un, un, un, un, un, un, un, un, un, un, un, un, un, un, un] h) : AC Try.prog 14 [x0, x1, x2] h R :=
  AC_of' (rs := [.tmp 6, .tmp 7]) Try.func14 (by kernel_rfl) hd14 Try.ntmps14 rfl H

/-- impl.exponentOk -/
def c48 : IC :=
  (.seq
  (.reg [
    ⟨some 2, .assign (.const (.bool false)), none⟩])
  (.seq
  (.reg [
    ⟨some 3, .move (.tmp 0), none⟩,
    ⟨some 4, .call { callee := .value (.func 49), args := #[.tmp 3, .const (.int .i64 0), .const (.int .i64 1000000)], argTypes := #[3, 3, 3] }, none⟩,
    ⟨some 2, .assign (.tmp 4), none⟩])
  .ret))
theorem hd48 : Try.f48.body.map dec = some c48 := by kernel_rfl
theorem e48 {R : AV → AH → Prop} {h : AH} (x0 : AV) (H : h.wf → AI Try.prog c48 (RetQ Try.prog [.tmp 2] R) [x0, un, un, un, un] h) : AC Try.prog 48 [x0] h R :=
  AC_of' (rs := [.tmp 2]) Try.func48 (by kernel_rfl) hd48 Try.ntmps48 rfl H

/-- impl.PowersModulo$1 -/
def c47 : IC :=
  (.seq
  (.reg [
    ⟨some 2, .assign (.const (.bool false)), none⟩])
  (.seq
  (.reg [
    ⟨some 3, .move (.tmp 0), none⟩,
    ⟨some 4, .call { callee := .value (.func 48), args := #[.tmp 3], argTypes := #[3] }, none⟩,
    ⟨some 5, .unOp .not 4 (.tmp 4), none⟩,
    ⟨some 2, .assign (.tmp 5), none⟩])
  .ret))
theorem hd47 : Try.f47.body.map dec = some c47 := by kernel_rfl
theorem e47 {R : AV → AH → Prop} {h : AH} (x0 : AV) (H : h.wf → AI Try.prog c47 (RetQ Try.prog [.tmp 2] R) [x0, un, un, un, un, un] h) : AC Try.prog 47 [x0] h R :=
  AC_of' (rs := [.tmp 2]) Try.func47 (by kernel_rfl) hd47 Try.ntmps47 rfl H

/-- impl.PowersModulo$2 -/
def c50 : IC :=
  (.seq
  (.reg [
    ⟨some 5, .assign (.const (.int .i64 0)), none⟩])
  (.seq
  (.reg [
    ⟨some 6, .move (.tmp 0), none⟩,
    ⟨some 7, .move (.tmp 1), none⟩,
    ⟨some 8, .binOp .mul 3 (.tmp 6) (.tmp 7) 3, none⟩,
    ⟨some 9, .load 3 (.tmp 2), none⟩,
    ⟨some 10, .binOp .rem 3 (.tmp 8) (.tmp 9) 3, none⟩,
    ⟨some 5, .assign (.tmp 10), none⟩])
  .ret))
theorem hd50 : Try.f50.body.map dec = some c50 := by kernel_rfl
theorem e50 {R : AV → AH → Prop} {h : AH} (x0 x1 x2 : AV) (H : h.wf → AI Try.prog c50 (RetQ Try.prog [.tmp 5] R) [x0, x1, x2, un, un, un, un, un, un, un, un] h) : AC Try.prog 50 [x0, x1, x2] h R :=
  AC_of' (rs := [.tmp 5]) Try.func50 (by kernel_rfl) hd50 Try.ntmps50 rfl H

/-- impl.power[int] -/
def c51 : IC :=
  (.seq
  (.reg [
    ⟨some 8, .assign (.const (.int .i64 0)), none⟩])
  (.seq
  (.block 0
  (.loop
    (.seq
    (.seq
    (.reg [
      ⟨some 9, .move (.tmp 2), none⟩,
      ⟨some 10, .binOp .gtr 3 (.tmp 9) (.const (.int .i64 0)) 3, none⟩])
    (.cond (.tmp 10)
      .skip
      (.exit 0)))
    (.seq
    (.block 1
    (.seq
    (.seq
    (.reg [
      ⟨some 13, .move (.tmp 2), none⟩,
      ⟨some 14, .binOp .rem 3 (.tmp 13) (.const (.int .i64 2)) 3, none⟩,
      ⟨some 15, .binOp .eql 3 (.tmp 14) (.const (.int .i64 1)) 3, none⟩])
    (.cond (.tmp 15)
      (.reg [
        ⟨some 16, .move (.tmp 3), none⟩,
        ⟨some 17, .move (.tmp 1), none⟩,
        ⟨some 18, .move (.tmp 0), none⟩,
        ⟨some 19, .call { callee := .value (.tmp 16), args := #[.tmp 17, .tmp 18], argTypes := #[3, 3] }, none⟩,
        ⟨some 1, .assign (.tmp 19), none⟩])
      .skip))
    (.reg [
      ⟨some 20, .move (.tmp 3), none⟩,
      ⟨some 21, .move (.tmp 0), none⟩,
      ⟨some 22, .move (.tmp 0), none⟩,
      ⟨some 23, .call { callee := .value (.tmp 20), args := #[.tmp 21, .tmp 22], argTypes := #[3, 3] }, none⟩,
      ⟨some 0, .assign (.tmp 23), none⟩])))
    (.reg [
      ⟨some 11, .move (.tmp 2), none⟩,
      ⟨some 12, .binOp .quo 3 (.tmp 11) (.const (.int .i64 2)) 3, none⟩,
      ⟨some 2, .assign (.tmp 12), none⟩])))))
  (.seq
  (.reg [
    ⟨some 24, .move (.tmp 1), none⟩,
    ⟨some 8, .assign (.tmp 24), none⟩])
  .ret)))
theorem hd51 : Try.f51.body.map dec = some c51 := by kernel_rfl
theorem e51 {R : AV → AH → Prop} {h : AH} (x0 x1 x2 x3 : AV) (H : h.wf → AI Try.prog c51 (RetQ Try.prog [.tmp 8] R) [x0, x1, x2, x3, un, un, un, un, un, un, un, un, un, un, un, un, un, un, un, un, un, un, un, un, un] h) : AC Try.prog 51 [x0, x1, x2, x3] h R :=
  AC_of' (rs := [.tmp 8]) Try.func51 (by kernel_rfl) hd51 Try.ntmps51 rfl H

/-- impl.PowersModulo -/
def c16 : IC :=
  (.seq
  (.reg [
    ⟨some 4, .box 3 (.tmp 1), none⟩,
    ⟨some 6, .assign (.const (.int .i64 0)), none⟩,
    ⟨some 7, .assign (.const (.bool false)), none⟩])
  (.seq
  (.reg [
    ⟨some 13, .move (.tmp 0), none⟩,
    ⟨some 14, .call { callee := .value (.func 46), args := #[.tmp 13, .func 47], argTypes := #[25, 41] }, none⟩,
    ⟨some 8, .assign (.tmp 14), none⟩])
  (.seq
  (.seq
  (.reg [
    ⟨some 15, .move (.tmp 8), none⟩,
    ⟨some 16, .move (.tmp 15), none⟩,
    ⟨some 17, .move (.tmp 2), some (16, false)⟩,
    ⟨some 18, .load 3 (.tmp 4), some (16, false)⟩,
    ⟨some 19, .call { callee := .value (.func 43), args := #[.tmp 17, .tmp 18], argTypes := #[25, 3] }, some (16, false)⟩,
    ⟨some 20, .unOp .not 4 (.tmp 19), some (16, false)⟩,
    ⟨some 21, .pick (.tmp 16) (.const (.bool true)) (.tmp 20), none⟩,
    ⟨some 22, .move (.tmp 21), none⟩,
    ⟨some 23, .move (.tmp 2), some (22, false)⟩,
    ⟨some 24, .call { callee := .builtin .len, args := #[.tmp 23], argTypes := #[25] }, some (22, false)⟩,
    ⟨some 25, .call { callee := .value (.func 49), args := #[.tmp 24, .const (.int .i64 1), .const (.int .i64 6)], argTypes := #[3, 3, 3] }, some (22, false)⟩,
    ⟨some 26, .unOp .not 4 (.tmp 25), some (22, false)⟩,
    ⟨some 27, .pick (.tmp 22) (.const (.bool true)) (.tmp 26), none⟩,
    ⟨some 28, .move (.tmp 27), none⟩,
    ⟨some 29, .move (.tmp 0), some (28, false)⟩,
    ⟨some 30, .call { callee := .builtin .len, args := #[.tmp 29], argTypes := #[25] }, some (28, false)⟩,
    ⟨some 31, .move (.tmp 2), some (28, false)⟩,
    ⟨some 32, .call { callee := .builtin .len, args := #[.tmp 31], argTypes := #[25] }, some (28, false)⟩,
    ⟨some 33, .binOp .neq 3 (.tmp 30) (.tmp 32) 3, some (28, false)⟩,
    ⟨some 34, .pick (.tmp 28) (.const (.bool true)) (.tmp 33), none⟩])
  (.cond (.tmp 34)
    (.seq
    (.reg [
      ⟨some 6, .assign (.const (.int .i64 0)), none⟩,
      ⟨some 7, .assign (.const (.bool false)), none⟩])
    .ret)
    .skip))
  (.seq
  (.reg [
    ⟨some 35, .makeFunc (.func 50) #[] #[.tmp 4], none⟩,
    ⟨some 9, .assign (.tmp 35), none⟩,
    ⟨some 10, .assign (.const (.int .i64 1)), none⟩])
  (.seq
  (.seq
  (.reg [
    ⟨some 36, .move (.tmp 0), none⟩,
    ⟨some 37, .call { callee := .builtin .len, args := #[.tmp 36], argTypes := #[25] }, none⟩,
    ⟨some 38, .move (.const (.int .i64 0)), none⟩])
  (.block 0
  (.loop
    (.seq
    (.reg [
      ⟨some 39, .binOp .lss 3 (.tmp 38) (.tmp 37) 3, none⟩])
    (.seq
    (.cond (.tmp 39)
      .skip
      (.exit 0))
    (.seq
    (.block 1
    (.seq
    (.reg [
      ⟨some 40, .move (.tmp 38), none⟩,
      ⟨some 41, .indexAddr 25 (.tmp 36) (.tmp 38), none⟩,
      ⟨some 42, .load 3 (.tmp 41), none⟩,
      ⟨some 11, .assign (.tmp 40), none⟩,
      ⟨some 12, .assign (.tmp 42), none⟩])
    (.reg [
      ⟨some 43, .move (.tmp 9), none⟩,
      ⟨some 44, .move (.tmp 10), none⟩,
      ⟨some 45, .move (.tmp 2), none⟩,
      ⟨some 46, .move (.tmp 11), none⟩,
      ⟨some 47, .indexAddr 25 (.tmp 45) (.tmp 46), none⟩,
      ⟨some 48, .load 3 (.tmp 47), none⟩,
      ⟨some 49, .move (.tmp 12), none⟩,
      ⟨some 50, .move (.tmp 9), none⟩,
      ⟨some 51, .call { callee := .value (.func 51), args := #[.tmp 48, .const (.int .i64 1), .tmp 49, .tmp 50], argTypes := #[3, 3, 3, 65] }, none⟩,
      ⟨some 52, .call { callee := .value (.tmp 43), args := #[.tmp 44, .tmp 51], argTypes := #[3, 3] }, none⟩,
      ⟨some 10, .assign (.tmp 52), none⟩])))
    (.reg [
      ⟨some 53, .binOp .add 3 (.tmp 38) (.const (.int .i64 1)) 3, none⟩,
      ⟨some 38, .move (.tmp 53), none⟩])))))))
  (.seq
  (.reg [
    ⟨some 54, .move (.tmp 10), none⟩,
    ⟨some 6, .assign (.tmp 54), none⟩,
    ⟨some 7, .assign (.const (.bool true)), none⟩])
  .ret))))))
theorem hd16 : Try.f16.body.map dec = some c16 := by kernel_rfl
theorem e16 {R : AV → AH → Prop} {h : AH} (x0 x1 x2 : AV) (H : h.wf → AI Try.prog c16 (RetQ Try.prog [.tmp 6, .tmp 7] R) [x0, x1, x2, un, un, un, un, un, un, un, un, un, un, un, un, un, un, un, un, un, un, un, un, un, un, un, un, un, un, un, un, un, un, un, un, un, un, un, un, un, un, un, un, un, un, un, un, un, un, un, un, un, un, un, un] h) : AC Try.prog 16 [x0, x1, x2] h R :=
  AC_of' (rs := [.tmp 6, .tmp 7]) Try.func16 (by kernel_rfl) hd16 Try.ntmps16 rfl H

/-- laws.big -/
def c35 : IC :=
  (.seq
  (.reg [
    ⟨some 4, .assign (.const (.bool false)), none⟩])
  (.seq
  (.reg [
    ⟨some 5, .move (.tmp 0), none⟩,
    ⟨some 6, .call { callee := .builtin .len, args := #[.tmp 5], argTypes := #[49] }, none⟩,
    ⟨some 7, .binOp .gtr 3 (.tmp 6) (.const (.int .i64 1048576)) 3, none⟩,
    ⟨some 8, .move (.tmp 7), none⟩,
    ⟨some 9, .move (.tmp 1), some (8, false)⟩,
    ⟨some 10, .call { callee := .builtin .len, args := #[.tmp 9], argTypes := #[49] }, some (8, false)⟩,
    ⟨some 11, .move (.tmp 0), some (8, false)⟩,
    ⟨some 12, .call { callee := .builtin .len, args := #[.tmp 11], argTypes := #[49] }, some (8, false)⟩,
    ⟨some 13, .binOp .sub 3 (.const (.int .i64 1048576)) (.tmp 12) 3, some (8, false)⟩,
    ⟨some 14, .binOp .gtr 3 (.tmp 10) (.tmp 13) 3, some (8, false)⟩,
    ⟨some 15, .pick (.tmp 8) (.const (.bool true)) (.tmp 14), none⟩,
    ⟨some 4, .assign (.tmp 15), none⟩])
  .ret))
theorem hd35 : Try.f35.body.map dec = some c35 := by kernel_rfl
theorem e35 {R : AV → AH → Prop} {h : AH} (x0 x1 : AV) (H : h.wf → AI Try.prog c35 (RetQ Try.prog [.tmp 4] R) [x0, x1, un, un, un, un, un, un, un, un, un, un, un, un, un, un] h) : AC Try.prog 35 [x0, x1] h R :=
  AC_of' (rs := [.tmp 4]) Try.func35 (by kernel_rfl) hd35 Try.ntmps35 rfl H

noncomputable def rg90_0 : Array Oper := rawAt Try.f90 0
noncomputable def rg90_1 : Array Oper := rawAt Try.f90 1
noncomputable def rg90_2 : Array Oper := rawAt Try.f90 2
/-- (*spec.l1Cur).next -/
noncomputable def c90 : IC :=
  (.seq
  (.reg [
    ⟨some 2, .assign (.const (.int .i64 0)), none⟩])
  (.seq
  (.reg [
    ⟨some 3, .assign (.const (.int .i64 0)), none⟩])
  (.seq
  (.seq
  (.raw (.region 2 rg90_0 true))
  (.cond (.tmp 13)
    (.raw (.region 3 rg90_1 true))
    .skip))
  (.seq
  (.reg [
    ⟨some 25, .move (.tmp 0), none⟩,
    ⟨some 26, .nilCheck (.tmp 25), none⟩,
    ⟨some 27, .fieldAddr 84 (.tmp 26) 1, none⟩,
    ⟨some 28, .load 3 (.tmp 27), none⟩,
    ⟨some 29, .binOp .add 3 (.tmp 28) (.const (.int .i64 1)) 3, none⟩,
    ⟨some 30, .nilCheck (.tmp 25), none⟩,
    ⟨some 31, .fieldAddr 84 (.tmp 30) 1, none⟩,
    ⟨none, .store 3 (.tmp 31) (.tmp 29), none⟩])
  (.seq
  (.reg [
    ⟨some 32, .move (.tmp 0), none⟩,
    ⟨some 33, .move (.tmp 0), none⟩,
    ⟨some 34, .nilCheck (.tmp 33), none⟩,
    ⟨some 35, .fieldAddr 84 (.tmp 34) 2, none⟩,
    ⟨some 36, .load 82 (.tmp 35), none⟩,
    ⟨some 37, .binOp .mul 82 (.tmp 36) (.const (.int .u64 6364136223846793005)) 82, none⟩,
    ⟨some 38, .move (.tmp 3), none⟩,
    ⟨some 39, .convert 3 82 (.tmp 38), none⟩,
    ⟨some 40, .binOp .add 82 (.tmp 37) (.tmp 39) 82, none⟩,
    ⟨some 41, .binOp .add 82 (.tmp 40) (.const (.int .u64 1442695040888963407)) 82, none⟩,
    ⟨some 42, .nilCheck (.tmp 32), none⟩,
    ⟨some 43, .fieldAddr 84 (.tmp 42) 2, none⟩,
    ⟨none, .store 82 (.tmp 43) (.tmp 41), none⟩])
  (.seq
  (.seq
  (.raw (.region 6 rg90_2 true))
  (.cond (.tmp 53)
    (.seq
    (.reg [
      ⟨some 54, .move (.tmp 3), none⟩,
      ⟨some 2, .assign (.tmp 54), none⟩])
    .ret)
    .skip))
  (.seq
  (.reg [
    ⟨some 55, .move (.tmp 0), none⟩,
    ⟨some 56, .nilCheck (.tmp 55), none⟩,
    ⟨some 57, .fieldAddr 84 (.tmp 56) 2, none⟩,
    ⟨some 58, .load 82 (.tmp 57), none⟩,
    ⟨some 59, .binOp .shr 82 (.tmp 58) (.const (.int .u64 40)) 77, none⟩,
    ⟨some 60, .binOp .and 82 (.tmp 59) (.const (.int .u64 255)) 82, none⟩,
    ⟨some 61, .convert 82 3 (.tmp 60), none⟩,
    ⟨some 2, .assign (.tmp 61), none⟩])
  .ret)))))))
theorem hd90 : Try.f90.body.map dec = some c90 := by kernel_rfl
theorem e90 {R : AV → AH → Prop} {h : AH} (x0 : AV) (H : h.wf → AI Try.prog c90 (RetQ Try.prog [.tmp 2] R) [x0, un, un, un, un, un, un, un, un, un, un, un, un, un, un, un, un, un, un, un, un, un, un, un, un, un, un, un, un, un, un, un, un, un, un, un, un, un, un, un, un, un, un, un, un, un, un, un, un, un, un, un, un, un, un, un, un, un, un, un, un, un] h) : AC Try.prog 90 [x0] h R :=
  AC_of' (rs := [.tmp 2]) Try.func90 (by kernel_rfl) hd90 Try.ntmps90 rfl H
theorem dz90_0 {h0 : AH} {L : List It} {Q : Exit → List AV → List It → Prop} {a : List AV} {id : Nat} (H : LX Try.prog ⟨[], []⟩ h0 L L (.c (⟨some 4, .move (.tmp 0), none⟩, .p) <| .c (⟨some 5, .nilCheck (.tmp 4), none⟩, .p) <| .c (⟨some 6, .fieldAddr 84 (.tmp 5) 1, none⟩, .p) <| .c (⟨some 7, .load 3 (.tmp 6), none⟩, .l) <| .c (⟨some 8, .move (.tmp 0), none⟩, .p) <| .c (⟨some 9, .nilCheck (.tmp 8), none⟩, .p) <| .c (⟨some 10, .fieldAddr 84 (.tmp 9) 0, none⟩, .p) <| .c (⟨some 11, .load 49 (.tmp 10), none⟩, .l) <| .c (⟨some 12, .call { callee := .builtin .len, args := #[.tmp 11], argTypes := #[49] }, none⟩, .p) <| .c (⟨some 13, .binOp .lss 3 (.tmp 7) (.tmp 12) 3, none⟩, .p) <| .n) Q a) : LI Try.prog h0 L (.raw (.region id rg90_0 true)) Q a :=
  LI_draw (.c (0, .p) <| .c (1, .p) <| .c (2, .p) <| .c (3, .l) <| .c (4, .p) <| .c (5, .p) <| .c (6, .p) <| .c (7, .l) <| .c (8, .p) <| .c (9, .p) <| .n) [] (by kernel_rfl) (by kernel_rfl) (by kernel_rfl) H
theorem dr90_0 (m : Nat) {Q : Exit → List AV → AH → Prop} {a : List AV} {h : AH} {id : Nat} (H : AX Try.prog m h [(⟨some 4, .move (.tmp 0), none⟩, true),
  (⟨some 5, .nilCheck (.tmp 4), none⟩, true),
  (⟨some 6, .fieldAddr 84 (.tmp 5) 1, none⟩, true),
  (⟨some 7, .load 3 (.tmp 6), none⟩, true),
  (⟨some 8, .move (.tmp 0), none⟩, true),
  (⟨some 9, .nilCheck (.tmp 8), none⟩, true),
  (⟨some 10, .fieldAddr 84 (.tmp 9) 0, none⟩, true),
  (⟨some 11, .load 49 (.tmp 10), none⟩, true),
  (⟨some 12, .call { callee := .builtin .len, args := #[.tmp 11], argTypes := #[49] }, none⟩, true),
  (⟨some 13, .binOp .lss 3 (.tmp 7) (.tmp 12) 3, none⟩, true)] (fun a' h' => Q .normal a' h') a h) : AI Try.prog (.raw (.region id rg90_0 true)) Q a h :=
  AI_draw [(0, true), (1, true), (2, true), (3, true), (4, true), (5, true), (6, true), (7, true), (8, true), (9, true)] m (by kernel_rfl) (by kernel_rfl) (by kernel_rfl) H
theorem dz90_1 {h0 : AH} {L : List It} {Q : Exit → List AV → List It → Prop} {a : List AV} {id : Nat} (H : LX Try.prog ⟨[], []⟩ h0 L L (.c (⟨some 14, .move (.tmp 0), none⟩, .p) <| .c (⟨some 15, .nilCheck (.tmp 14), none⟩, .p) <| .c (⟨some 16, .fieldAddr 84 (.tmp 15) 0, none⟩, .p) <| .c (⟨some 17, .load 49 (.tmp 16), none⟩, .l) <| .c (⟨some 18, .move (.tmp 0), none⟩, .p) <| .c (⟨some 19, .nilCheck (.tmp 18), none⟩, .p) <| .c (⟨some 20, .fieldAddr 84 (.tmp 19) 1, none⟩, .p) <| .c (⟨some 21, .load 3 (.tmp 20), none⟩, .l) <| .c (⟨some 22, .indexAddr 49 (.tmp 17) (.tmp 21), none⟩, .p) <| .c (⟨some 23, .load 5 (.tmp 22), none⟩, .l) <| .c (⟨some 24, .convert 5 3 (.tmp 23), none⟩, .p) <| .c (⟨some 3, .assign (.tmp 24), none⟩, .p) <| .n) Q a) : LI Try.prog h0 L (.raw (.region id rg90_1 true)) Q a :=
  LI_draw (.c (0, .p) <| .c (1, .p) <| .c (2, .p) <| .c (3, .l) <| .c (4, .p) <| .c (5, .p) <| .c (6, .p) <| .c (7, .l) <| .c (8, .p) <| .c (9, .l) <| .c (10, .p) <| .c (11, .p) <| .n) [] (by kernel_rfl) (by kernel_rfl) (by kernel_rfl) H
theorem dr90_1 (m : Nat) {Q : Exit → List AV → AH → Prop} {a : List AV} {h : AH} {id : Nat} (H : AX Try.prog m h [(⟨some 14, .move (.tmp 0), none⟩, true),
  (⟨some 15, .nilCheck (.tmp 14), none⟩, true),
  (⟨some 16, .fieldAddr 84 (.tmp 15) 0, none⟩, true),
  (⟨some 17, .load 49 (.tmp 16), none⟩, true),
  (⟨some 18, .move (.tmp 0), none⟩, true),
  (⟨some 19, .nilCheck (.tmp 18), none⟩, true),
  (⟨some 20, .fieldAddr 84 (.tmp 19) 1, none⟩, true),
  (⟨some 21, .load 3 (.tmp 20), none⟩, true),
  (⟨some 22, .indexAddr 49 (.tmp 17) (.tmp 21), none⟩, true),
  (⟨some 23, .load 5 (.tmp 22), none⟩, true),
  (⟨some 24, .convert 5 3 (.tmp 23), none⟩, true),
  (⟨some 3, .assign (.tmp 24), none⟩, true)] (fun a' h' => Q .normal a' h') a h) : AI Try.prog (.raw (.region id rg90_1 true)) Q a h :=
  AI_draw [(0, true), (1, true), (2, true), (3, true), (4, true), (5, true), (6, true), (7, true), (8, true), (9, true), (10, true), (11, true)] m (by kernel_rfl) (by kernel_rfl) (by kernel_rfl) H
theorem dz90_2 {h0 : AH} {L : List It} {Q : Exit → List AV → List It → Prop} {a : List AV} {id : Nat} (H : LX Try.prog ⟨[], []⟩ h0 L L (.c (⟨some 44, .move (.tmp 0), none⟩, .p) <| .c (⟨some 45, .nilCheck (.tmp 44), none⟩, .p) <| .c (⟨some 46, .fieldAddr 84 (.tmp 45) 1, none⟩, .p) <| .c (⟨some 47, .load 3 (.tmp 46), none⟩, .l) <| .c (⟨some 48, .move (.tmp 0), none⟩, .p) <| .c (⟨some 49, .nilCheck (.tmp 48), none⟩, .p) <| .c (⟨some 50, .fieldAddr 84 (.tmp 49) 0, none⟩, .p) <| .c (⟨some 51, .load 49 (.tmp 50), none⟩, .l) <| .c (⟨some 52, .call { callee := .builtin .len, args := #[.tmp 51], argTypes := #[49] }, none⟩, .p) <| .c (⟨some 53, .binOp .leq 3 (.tmp 47) (.tmp 52) 3, none⟩, .p) <| .n) Q a) : LI Try.prog h0 L (.raw (.region id rg90_2 true)) Q a :=
  LI_draw (.c (0, .p) <| .c (1, .p) <| .c (2, .p) <| .c (3, .l) <| .c (4, .p) <| .c (5, .p) <| .c (6, .p) <| .c (7, .l) <| .c (8, .p) <| .c (9, .p) <| .n) [] (by kernel_rfl) (by kernel_rfl) (by kernel_rfl) H
theorem dr90_2 (m : Nat) {Q : Exit → List AV → AH → Prop} {a : List AV} {h : AH} {id : Nat} (H : AX Try.prog m h [(⟨some 44, .move (.tmp 0), none⟩, true),
  (⟨some 45, .nilCheck (.tmp 44), none⟩, true),
  (⟨some 46, .fieldAddr 84 (.tmp 45) 1, none⟩, true),
  (⟨some 47, .load 3 (.tmp 46), none⟩, true),
  (⟨some 48, .move (.tmp 0), none⟩, true),
  (⟨some 49, .nilCheck (.tmp 48), none⟩, true),
  (⟨some 50, .fieldAddr 84 (.tmp 49) 0, none⟩, true),
  (⟨some 51, .load 49 (.tmp 50), none⟩, true),
  (⟨some 52, .call { callee := .builtin .len, args := #[.tmp 51], argTypes := #[49] }, none⟩, true),
  (⟨some 53, .binOp .leq 3 (.tmp 47) (.tmp 52) 3, none⟩, true)] (fun a' h' => Q .normal a' h') a h) : AI Try.prog (.raw (.region id rg90_2 true)) Q a h :=
  AI_draw [(0, true), (1, true), (2, true), (3, true), (4, true), (5, true), (6, true), (7, true), (8, true), (9, true)] m (by kernel_rfl) (by kernel_rfl) (by kernel_rfl) H

/-- (*spec.l1Cur).pick -/
def c86 : IC :=
  (.seq
  (.reg [
    ⟨some 4, .assign (.const (.int .i64 0)), none⟩])
  (.seq
  (.seq
  (.reg [
    ⟨some 6, .move (.tmp 1), none⟩,
    ⟨some 7, .binOp .leq 3 (.tmp 6) (.const (.int .i64 1)) 3, none⟩])
  (.cond (.tmp 7)
    (.seq
    (.reg [
      ⟨some 4, .assign (.const (.int .i64 0)), none⟩])
    .ret)
    .skip))
  (.seq
  (.reg [
    ⟨some 8, .move (.tmp 0), none⟩,
    ⟨some 9, .call { callee := .value (.func 90), args := #[.tmp 8], argTypes := #[81] }, none⟩,
    ⟨some 5, .assign (.tmp 9), none⟩])
  (.seq
  (.seq
  (.reg [
    ⟨some 10, .move (.tmp 1), none⟩,
    ⟨some 11, .binOp .gtr 3 (.tmp 10) (.const (.int .i64 200)) 3, none⟩])
  (.cond (.tmp 11)
    (.reg [
      ⟨some 12, .move (.tmp 5), none⟩,
      ⟨some 13, .binOp .mul 3 (.tmp 12) (.const (.int .i64 256)) 3, none⟩,
      ⟨some 14, .move (.tmp 0), none⟩,
      ⟨some 15, .call { callee := .value (.func 90), args := #[.tmp 14], argTypes := #[81] }, none⟩,
      ⟨some 16, .binOp .add 3 (.tmp 13) (.tmp 15) 3, none⟩,
      ⟨some 5, .assign (.tmp 16), none⟩])
    .skip))
  (.seq
  (.reg [
    ⟨some 17, .move (.tmp 5), none⟩,
    ⟨some 18, .move (.tmp 1), none⟩,
    ⟨some 19, .binOp .rem 3 (.tmp 17) (.tmp 18) 3, none⟩,
    ⟨some 4, .assign (.tmp 19), none⟩])
  .ret)))))
theorem hd86 : Try.f86.body.map dec = some c86 := by kernel_rfl
theorem e86 {R : AV → AH → Prop} {h : AH} (x0 x1 : AV) (H : h.wf → AI Try.prog c86 (RetQ Try.prog [.tmp 4] R) [x0, x1, un, un, un, un, un, un, un, un, un, un, un, un, un, un, un, un, un, un] h) : AC Try.prog 86 [x0, x1] h R :=
  AC_of' (rs := [.tmp 4]) Try.func86 (by kernel_rfl) hd86 Try.ntmps86 rfl H

/-- (*spec.l1Cur).among -/
def c70 : IC :=
  (.seq
  (.reg [
    ⟨some 4, .assign (.const (.int .i64 0)), none⟩])
  (.seq
  (.reg [
    ⟨some 5, .move (.tmp 1), none⟩,
    ⟨some 6, .move (.tmp 0), none⟩,
    ⟨some 7, .move (.tmp 1), none⟩,
    ⟨some 8, .call { callee := .builtin .len, args := #[.tmp 7], argTypes := #[25] }, none⟩,
    ⟨some 9, .call { callee := .value (.func 86), args := #[.tmp 6, .tmp 8], argTypes := #[81, 3] }, none⟩,
    ⟨some 10, .indexAddr 25 (.tmp 5) (.tmp 9), none⟩,
    ⟨some 11, .load 3 (.tmp 10), none⟩,
    ⟨some 4, .assign (.tmp 11), none⟩])
  .ret))
theorem hd70 : Try.f70.body.map dec = some c70 := by kernel_rfl
theorem e70 {R : AV → AH → Prop} {h : AH} (x0 x1 : AV) (H : h.wf → AI Try.prog c70 (RetQ Try.prog [.tmp 4] R) [x0, x1, un, un, un, un, un, un, un, un, un, un] h) : AC Try.prog 70 [x0, x1] h R :=
  AC_of' (rs := [.tmp 4]) Try.func70 (by kernel_rfl) hd70 Try.ntmps70 rfl H

/-- (*spec.l1Cur).one -/
def c87 : IC :=
  (.seq
  (.reg [
    ⟨some 4, .assign (.const (.bool false)), none⟩])
  (.seq
  (.reg [
    ⟨some 5, .move (.tmp 0), none⟩,
    ⟨some 6, .move (.tmp 1), none⟩,
    ⟨some 7, .call { callee := .value (.func 86), args := #[.tmp 5, .tmp 6], argTypes := #[81, 3] }, none⟩,
    ⟨some 8, .binOp .eql 3 (.tmp 7) (.const (.int .i64 0)) 3, none⟩,
    ⟨some 4, .assign (.tmp 8), none⟩])
  .ret))
theorem hd87 : Try.f87.body.map dec = some c87 := by kernel_rfl
theorem e87 {R : AV → AH → Prop} {h : AH} (x0 x1 : AV) (H : h.wf → AI Try.prog c87 (RetQ Try.prog [.tmp 4] R) [x0, x1, un, un, un, un, un, un, un] h) : AC Try.prog 87 [x0, x1] h R :=
  AC_of' (rs := [.tmp 4]) Try.func87 (by kernel_rfl) hd87 Try.ntmps87 rfl H

/-- (*spec.l1Cur).modulus6 -/
def c71 : IC :=
  (.seq
  (.reg [
    ⟨some 2, .assign (.const (.int .i64 0)), none⟩])
  (.seq
  (.seq
  (.reg [
    ⟨some 3, .move (.tmp 0), none⟩,
    ⟨some 4, .call { callee := .value (.func 87), args := #[.tmp 3, .const (.int .i64 12)], argTypes := #[81, 3] }, none⟩])
  (.cond (.tmp 4)
    (.seq
    (.reg [
      ⟨some 5, .move (.tmp 0), none⟩,
      ⟨some 6, .buildSlice 25 6 #[(0, .const (.int .i64 (-1))), (1, .const (.int .i64 0)), (2, .const (.int .i64 1)), (3, .const (.int .i64 2)), (4, .const (.int .i64 10000)), (5, .const (.int .i64 10001))], none⟩,
      ⟨some 7, .call { callee := .value (.func 70), args := #[.tmp 5, .tmp 6], argTypes := #[81, 25] }, none⟩,
      ⟨some 2, .assign (.tmp 7), none⟩])
    .ret)
    .skip))
  (.seq
  (.reg [
    ⟨some 8, .move (.tmp 0), none⟩,
    ⟨some 9, .move (.tmp 0), none⟩,
    ⟨some 10, .buildSlice 25 3 #[(0, .const (.int .i64 6)), (1, .const (.int .i64 30)), (2, .const (.int .i64 1000))], none⟩,
    ⟨some 11, .call { callee := .value (.func 70), args := #[.tmp 9, .tmp 10], argTypes := #[81, 25] }, none⟩,
    ⟨some 12, .call { callee := .value (.func 86), args := #[.tmp 8, .tmp 11], argTypes := #[81, 3] }, none⟩,
    ⟨some 13, .binOp .add 3 (.const (.int .i64 2)) (.tmp 12) 3, none⟩,
    ⟨some 2, .assign (.tmp 13), none⟩])
  .ret)))
theorem hd71 : Try.f71.body.map dec = some c71 := by kernel_rfl
theorem e71 {R : AV → AH → Prop} {h : AH} (x0 : AV) (H : h.wf → AI Try.prog c71 (RetQ Try.prog [.tmp 2] R) [x0, un, un, un, un, un, un, un, un, un, un, un, un, un] h) : AC Try.prog 71 [x0] h R :=
  AC_of' (rs := [.tmp 2]) Try.func71 (by kernel_rfl) hd71 Try.ntmps71 rfl H

/-- (*spec.l1Cur).exponent -/
def c72 : IC :=
  (.seq
  (.reg [
    ⟨some 2, .assign (.const (.int .i64 0)), none⟩])
  (.seq
  (.seq
  (.reg [
    ⟨some 3, .move (.tmp 0), none⟩,
    ⟨some 4, .call { callee := .value (.func 87), args := #[.tmp 3, .const (.int .i64 12)], argTypes := #[81, 3] }, none⟩])
  (.cond (.tmp 4)
    (.seq
    (.reg [
      ⟨some 5, .move (.tmp 0), none⟩,
      ⟨some 6, .buildSlice 25 4 #[(0, .const (.int .i64 (-1))), (1, .const (.int .i64 0)), (2, .const (.int .i64 1000000)), (3, .const (.int .i64 1000001))], none⟩,
      ⟨some 7, .call { callee := .value (.func 70), args := #[.tmp 5, .tmp 6], argTypes := #[81, 25] }, none⟩,
      ⟨some 2, .assign (.tmp 7), none⟩])
    .ret)
    .skip))
  (.seq
  (.reg [
    ⟨some 8, .move (.tmp 0), none⟩,
    ⟨some 9, .move (.tmp 0), none⟩,
    ⟨some 10, .buildSlice 25 3 #[(0, .const (.int .i64 5)), (1, .const (.int .i64 40)), (2, .const (.int .i64 5000))], none⟩,
    ⟨some 11, .call { callee := .value (.func 70), args := #[.tmp 9, .tmp 10], argTypes := #[81, 25] }, none⟩,
    ⟨some 12, .call { callee := .value (.func 86), args := #[.tmp 8, .tmp 11], argTypes := #[81, 3] }, none⟩,
    ⟨some 2, .assign (.tmp 12), none⟩])
  .ret)))
theorem hd72 : Try.f72.body.map dec = some c72 := by kernel_rfl
theorem e72 {R : AV → AH → Prop} {h : AH} (x0 : AV) (H : h.wf → AI Try.prog c72 (RetQ Try.prog [.tmp 2] R) [x0, un, un, un, un, un, un, un, un, un, un, un, un] h) : AC Try.prog 72 [x0] h R :=
  AC_of' (rs := [.tmp 2]) Try.func72 (by kernel_rfl) hd72 Try.ntmps72 rfl H

/-- spec.l1Most -/
def c88 : IC :=
  (.seq
  (.reg [
    ⟨some 4, .assign (.const (.int .i64 0)), none⟩])
  (.seq
  (.seq
  (.reg [
    ⟨some 5, .move (.tmp 0), none⟩,
    ⟨some 6, .move (.tmp 1), none⟩,
    ⟨some 7, .binOp .gtr 3 (.tmp 5) (.tmp 6) 3, none⟩])
  (.cond (.tmp 7)
    (.seq
    (.reg [
      ⟨some 8, .move (.tmp 0), none⟩,
      ⟨some 4, .assign (.tmp 8), none⟩])
    .ret)
    .skip))
  (.seq
  (.reg [
    ⟨some 9, .move (.tmp 1), none⟩,
    ⟨some 4, .assign (.tmp 9), none⟩])
  .ret)))
theorem hd88 : Try.f88.body.map dec = some c88 := by kernel_rfl
theorem e88 {R : AV → AH → Prop} {h : AH} (x0 x1 : AV) (H : h.wf → AI Try.prog c88 (RetQ Try.prog [.tmp 4] R) [x0, x1, un, un, un, un, un, un, un, un] h) : AC Try.prog 88 [x0, x1] h R :=
  AC_of' (rs := [.tmp 4]) Try.func88 (by kernel_rfl) hd88 Try.ntmps88 rfl H

/-- spec.l1Least -/
def c89 : IC :=
  (.seq
  (.reg [
    ⟨some 4, .assign (.const (.int .i64 0)), none⟩])
  (.seq
  (.seq
  (.reg [
    ⟨some 5, .move (.tmp 0), none⟩,
    ⟨some 6, .move (.tmp 1), none⟩,
    ⟨some 7, .binOp .lss 3 (.tmp 5) (.tmp 6) 3, none⟩])
  (.cond (.tmp 7)
    (.seq
    (.reg [
      ⟨some 8, .move (.tmp 0), none⟩,
      ⟨some 4, .assign (.tmp 8), none⟩])
    .ret)
    .skip))
  (.seq
  (.reg [
    ⟨some 9, .move (.tmp 1), none⟩,
    ⟨some 4, .assign (.tmp 9), none⟩])
  .ret)))
theorem hd89 : Try.f89.body.map dec = some c89 := by kernel_rfl
theorem e89 {R : AV → AH → Prop} {h : AH} (x0 x1 : AV) (H : h.wf → AI Try.prog c89 (RetQ Try.prog [.tmp 4] R) [x0, x1, un, un, un, un, un, un, un, un] h) : AC Try.prog 89 [x0, x1] h R :=
  AC_of' (rs := [.tmp 4]) Try.func89 (by kernel_rfl) hd89 Try.ntmps89 rfl H

/-- (*spec.l1Cur).residue -/
def c74 : IC :=
  (.seq
  (.reg [
    ⟨some 4, .assign (.const (.int .i64 0)), none⟩])
  (.seq
  (.seq
  (.reg [
    ⟨some 5, .move (.tmp 0), none⟩,
    ⟨some 6, .call { callee := .value (.func 87), args := #[.tmp 5, .const (.int .i64 40)], argTypes := #[81, 3] }, none⟩])
  (.cond (.tmp 6)
    (.seq
    (.reg [
      ⟨some 7, .move (.tmp 0), none⟩,
      ⟨some 8, .move (.tmp 1), none⟩,
      ⟨some 9, .buildSlice 25 3 #[(0, .const (.int .i64 (-1))), (1, .tmp 8), (2, .const (.int .i64 4611686018427387904))], none⟩,
      ⟨some 10, .call { callee := .value (.func 70), args := #[.tmp 7, .tmp 9], argTypes := #[81, 25] }, none⟩,
      ⟨some 4, .assign (.tmp 10), none⟩])
    .ret)
    .skip))
  (.seq
  (.reg [
    ⟨some 11, .move (.tmp 0), none⟩,
    ⟨some 12, .move (.tmp 1), none⟩,
    ⟨some 13, .call { callee := .value (.func 89), args := #[.tmp 12, .const (.int .i64 20000)], argTypes := #[3, 3] }, none⟩,
    ⟨some 14, .call { callee := .value (.func 88), args := #[.const (.int .i64 1), .tmp 13], argTypes := #[3, 3] }, none⟩,
    ⟨some 15, .call { callee := .value (.func 86), args := #[.tmp 11, .tmp 14], argTypes := #[81, 3] }, none⟩,
    ⟨some 4, .assign (.tmp 15), none⟩])
  .ret)))
theorem hd74 : Try.f74.body.map dec = some c74 := by kernel_rfl
theorem e74 {R : AV → AH → Prop} {h : AH} (x0 x1 : AV) (H : h.wf → AI Try.prog c74 (RetQ Try.prog [.tmp 4] R) [x0, x1, un, un, un, un, un, un, un, un, un, un, un, un, un, un] h) : AC Try.prog 74 [x0, x1] h R :=
  AC_of' (rs := [.tmp 4]) Try.func74 (by kernel_rfl) hd74 Try.ntmps74 rfl H

/-- (*spec.l1Cur).residues -/
def c73 : IC :=
  (.seq
  (.reg [
    ⟨some 6, .assign (.const (.slice none 0 0)), none⟩])
  (.seq
  (.reg [
    ⟨some 7, .assign (.const (.slice none 0 0)), none⟩])
  (.seq
  (.seq
  (.reg [
    ⟨some 8, .move (.tmp 0), none⟩,
    ⟨some 9, .call { callee := .value (.func 87), args := #[.tmp 8, .const (.int .i64 30)], argTypes := #[81, 3] }, none⟩])
  (.cond (.tmp 9)
    (.reg [
      ⟨some 10, .move (.tmp 1), none⟩,
      ⟨some 11, .binOp .add 3 (.tmp 10) (.const (.int .i64 1)) 3, none⟩,
      ⟨some 1, .assign (.tmp 11), none⟩])
    .skip))
  (.seq
  (.block 0
  (.loop
    (.seq
    (.seq
    (.reg [
      ⟨some 12, .move (.tmp 1), none⟩,
      ⟨some 13, .binOp .gtr 3 (.tmp 12) (.const (.int .i64 0)) 3, none⟩])
    (.cond (.tmp 13)
      .skip
      (.exit 0)))
    (.seq
    (.block 1
    (.reg [
      ⟨some 16, .move (.tmp 7), none⟩,
      ⟨some 17, .move (.tmp 0), none⟩,
      ⟨some 18, .move (.tmp 2), none⟩,
      ⟨some 19, .call { callee := .value (.func 74), args := #[.tmp 17, .tmp 18], argTypes := #[81, 3] }, none⟩,
      ⟨some 20, .buildSlice 25 1 #[(0, .tmp 19)], none⟩,
      ⟨some 21, .call { callee := .builtin .append, args := #[.tmp 16, .tmp 20], argTypes := #[25, 25] }, none⟩,
      ⟨some 7, .assign (.tmp 21), none⟩]))
    (.reg [
      ⟨some 14, .move (.tmp 1), none⟩,
      ⟨some 15, .binOp .sub 3 (.tmp 14) (.const (.int .i64 1)) 3, none⟩,
      ⟨some 1, .assign (.tmp 15), none⟩])))))
  (.seq
  (.reg [
    ⟨some 22, .move (.tmp 7), none⟩,
    ⟨some 6, .assign (.tmp 22), none⟩])
  .ret)))))
theorem hd73 : Try.f73.body.map dec = some c73 := by kernel_rfl
theorem e73 {R : AV → AH → Prop} {h : AH} (x0 x1 x2 : AV) (H : h.wf → AI Try.prog c73 (RetQ Try.prog [.tmp 6] R) [x0, x1, x2, un, un, un, un, un, un, un, un, un, un, un, un, un, un, un, un, un, un, un, un] h) : AC Try.prog 73 [x0, x1, x2] h R :=
  AC_of' (rs := [.tmp 6]) Try.func73 (by kernel_rfl) hd73 Try.ntmps73 rfl H

/-- spec.DrawPowersModulo -/
def c36 : IC :=
  (.seq
  (.reg [
    ⟨some 2, .assign (.const (.slice none 0 0)), none⟩,
    ⟨some 3, .assign (.const (.int .i64 0)), none⟩,
    ⟨some 4, .assign (.const (.slice none 0 0)), none⟩])
  (.seq
  (.reg [
    ⟨some 10, .move (.tmp 0), none⟩,
    ⟨some 11, .build 84 #[(0, .tmp 10)], none⟩,
    ⟨some 12, .box 84 (.tmp 11), none⟩,
    ⟨some 5, .assign (.tmp 12), none⟩])
  (.seq
  (.reg [
    ⟨some 13, .move (.tmp 5), none⟩,
    ⟨some 14, .buildSlice 25 6 #[(0, .const (.int .i64 1)), (1, .const (.int .i64 2)), (2, .const (.int .i64 3)), (3, .const (.int .i64 6)), (4, .const (.int .i64 7)), (5, .const (.int .i64 0))], none⟩,
    ⟨some 15, .call { callee := .value (.func 70), args := #[.tmp 13, .tmp 14], argTypes := #[81, 25] }, none⟩,
    ⟨some 6, .assign (.tmp 15), none⟩])
  (.seq
  (.reg [
    ⟨some 16, .move (.tmp 5), none⟩,
    ⟨some 17, .call { callee := .value (.func 71), args := #[.tmp 16], argTypes := #[81] }, none⟩,
    ⟨some 7, .assign (.tmp 17), none⟩])
  (.seq
  (.reg [
    ⟨some 8, .assign (.const (.slice none 0 0)), none⟩])
  (.seq
  (.seq
  (.reg [
    ⟨some 9, .assign (.const (.int .i64 0)), none⟩])
  (.block 0
  (.loop
    (.seq
    (.seq
    (.reg [
      ⟨some 18, .move (.tmp 9), none⟩,
      ⟨some 19, .move (.tmp 6), none⟩,
      ⟨some 20, .binOp .lss 3 (.tmp 18) (.tmp 19) 3, none⟩])
    (.cond (.tmp 20)
      .skip
      (.exit 0)))
    (.seq
    (.block 1
    (.reg [
      ⟨some 23, .move (.tmp 8), none⟩,
      ⟨some 24, .move (.tmp 5), none⟩,
      ⟨some 25, .call { callee := .value (.func 72), args := #[.tmp 24], argTypes := #[81] }, none⟩,
      ⟨some 26, .buildSlice 25 1 #[(0, .tmp 25)], none⟩,
      ⟨some 27, .call { callee := .builtin .append, args := #[.tmp 23, .tmp 26], argTypes := #[25, 25] }, none⟩,
      ⟨some 8, .assign (.tmp 27), none⟩]))
    (.reg [
      ⟨some 21, .move (.tmp 9), none⟩,
      ⟨some 22, .binOp .add 3 (.tmp 21) (.const (.int .i64 1)) 3, none⟩,
      ⟨some 9, .assign (.tmp 22), none⟩]))))))
  (.seq
  (.reg [
    ⟨some 28, .move (.tmp 8), none⟩,
    ⟨some 29, .move (.tmp 7), none⟩,
    ⟨some 30, .move (.tmp 5), none⟩,
    ⟨some 31, .move (.tmp 6), none⟩,
    ⟨some 32, .move (.tmp 7), none⟩,
    ⟨some 33, .call { callee := .value (.func 73), args := #[.tmp 30, .tmp 31, .tmp 32], argTypes := #[81, 3, 3] }, none⟩,
    ⟨some 2, .assign (.tmp 28), none⟩,
    ⟨some 3, .assign (.tmp 29), none⟩,
    ⟨some 4, .assign (.tmp 33), none⟩])
  .ret)))))))
theorem hd36 : Try.f36.body.map dec = some c36 := by kernel_rfl
theorem e36 {R : AV → AH → Prop} {h : AH} (x0 : AV) (H : h.wf → AI Try.prog c36 (RetQ Try.prog [.tmp 2, .tmp 3, .tmp 4] R) [x0, un, un, un, un, un, un, un, un, un, un, un, un, un, un, un, un, un, un, un, un, un, un, un, un, un, un, un, un, un, un, un, un, un] h) : AC Try.prog 36 [x0] h R :=
  AC_of' (rs := [.tmp 2, .tmp 3, .tmp 4]) Try.func36 (by kernel_rfl) hd36 Try.ntmps36 rfl H

/-- spec.DrawOrderModulo -/
def c37 : IC :=
  (.seq
  (.reg [
    ⟨some 2, .assign (.const (.int .i64 0)), none⟩,
    ⟨some 3, .assign (.const (.int .i64 0)), none⟩])
  (.seq
  (.reg [
    ⟨some 6, .move (.tmp 0), none⟩,
    ⟨some 7, .build 84 #[(0, .tmp 6)], none⟩,
    ⟨some 8, .box 84 (.tmp 7), none⟩,
    ⟨some 4, .assign (.tmp 8), none⟩])
  (.seq
  (.reg [
    ⟨some 9, .move (.tmp 4), none⟩,
    ⟨some 10, .call { callee := .value (.func 71), args := #[.tmp 9], argTypes := #[81] }, none⟩,
    ⟨some 5, .assign (.tmp 10), none⟩])
  (.seq
  (.reg [
    ⟨some 11, .move (.tmp 4), none⟩,
    ⟨some 12, .move (.tmp 5), none⟩,
    ⟨some 13, .call { callee := .value (.func 74), args := #[.tmp 11, .tmp 12], argTypes := #[81, 3] }, none⟩,
    ⟨some 14, .move (.tmp 5), none⟩,
    ⟨some 2, .assign (.tmp 13), none⟩,
    ⟨some 3, .assign (.tmp 14), none⟩])
  .ret))))
theorem hd37 : Try.f37.body.map dec = some c37 := by kernel_rfl
theorem e37 {R : AV → AH → Prop} {h : AH} (x0 : AV) (H : h.wf → AI Try.prog c37 (RetQ Try.prog [.tmp 2, .tmp 3] R) [x0, un, un, un, un, un, un, un, un, un, un, un, un, un, un] h) : AC Try.prog 37 [x0] h R :=
  AC_of' (rs := [.tmp 2, .tmp 3]) Try.func37 (by kernel_rfl) hd37 Try.ntmps37 rfl H

/-- laws.FnPowersOfResidues -/
def c10 : IC :=
  (.seq
  (.reg [
    ⟨some 4, .assign (.const (.bool false)), none⟩])
  (.seq
  (.seq
  (.reg [
    ⟨some 23, .move (.tmp 0), none⟩,
    ⟨some 24, .move (.tmp 1), none⟩,
    ⟨some 25, .call { callee := .value (.func 35), args := #[.tmp 23, .tmp 24], argTypes := #[49, 49] }, none⟩])
  (.cond (.tmp 25)
    (.seq
    (.reg [
      ⟨some 4, .assign (.const (.bool true)), none⟩])
    .ret)
    .skip))
  (.seq
  (.reg [
    ⟨some 27, .move (.tmp 0), none⟩,
    ⟨some 28, .call { callee := .value (.func 36), args := #[.tmp 27], argTypes := #[49] }, none⟩,
    ⟨some 26, .move (.tmp 28), none⟩,
    ⟨some 29, .extract (.tmp 26) 0, none⟩,
    ⟨some 30, .extract (.tmp 26) 1, none⟩,
    ⟨some 31, .extract (.tmp 26) 2, none⟩,
    ⟨some 5, .assign (.tmp 29), none⟩,
    ⟨some 6, .assign (.tmp 30), none⟩,
    ⟨some 7, .assign (.tmp 31), none⟩])
  (.seq
  (.reg [
    ⟨some 33, .move (.tmp 5), none⟩,
    ⟨some 34, .move (.tmp 6), none⟩,
    ⟨some 35, .move (.tmp 7), none⟩,
    ⟨some 36, .call { callee := .value (.func 16), args := #[.tmp 33, .tmp 34, .tmp 35], argTypes := #[25, 3, 25] }, none⟩,
    ⟨some 32, .move (.tmp 36), none⟩,
    ⟨some 37, .extract (.tmp 32) 0, none⟩,
    ⟨some 38, .extract (.tmp 32) 1, none⟩,
    ⟨some 8, .assign (.tmp 37), none⟩,
    ⟨some 9, .assign (.tmp 38), none⟩])
  (.seq
  (.reg [
    ⟨some 40, .move (.tmp 5), none⟩,
    ⟨some 41, .move (.tmp 6), none⟩,
    ⟨some 42, .move (.tmp 7), none⟩,
    ⟨some 43, .call { callee := .value (.func 14), args := #[.tmp 40, .tmp 41, .tmp 42], argTypes := #[25, 3, 25] }, none⟩,
    ⟨some 39, .move (.tmp 43), none⟩,
    ⟨some 44, .extract (.tmp 39) 0, none⟩,
    ⟨some 45, .extract (.tmp 39) 1, none⟩,
    ⟨some 10, .assign (.tmp 44), none⟩,
    ⟨some 11, .assign (.tmp 45), none⟩])
  (.seq
  (.seq
  (.reg [
    ⟨some 46, .move (.tmp 9), none⟩,
    ⟨some 47, .move (.tmp 11), none⟩,
    ⟨some 48, .binOp .neq 4 (.tmp 46) (.tmp 47) 4, none⟩,
    ⟨some 49, .move (.tmp 48), none⟩,
    ⟨some 50, .move (.tmp 8), some (49, false)⟩,
    ⟨some 51, .move (.tmp 10), some (49, false)⟩,
    ⟨some 52, .binOp .neq 3 (.tmp 50) (.tmp 51) 3, some (49, false)⟩,
    ⟨some 53, .pick (.tmp 49) (.const (.bool true)) (.tmp 52), none⟩])
  (.cond (.tmp 53)
    (.seq
    (.reg [
      ⟨some 4, .assign (.const (.bool false)), none⟩])
    .ret)
    .skip))
  (.seq
  (.seq
  (.reg [
    ⟨some 54, .move (.tmp 9), none⟩,
    ⟨some 55, .move (.tmp 54), none⟩,
    ⟨some 56, .move (.tmp 5), some (55, true)⟩,
    ⟨some 57, .indexAddr 25 (.tmp 56) (.const (.int .i64 0)), some (55, true)⟩,
    ⟨some 58, .load 3 (.tmp 57), some (55, true)⟩,
    ⟨some 59, .binOp .lss 3 (.tmp 58) (.const (.int .i64 1000000)) 3, some (55, true)⟩,
    ⟨some 60, .pick (.tmp 55) (.tmp 59) (.const (.bool false)), none⟩])
  (.cond (.tmp 60)
    (.seq
    (.reg [
      ⟨some 61, .buildSlice 25 0 #[], none⟩,
      ⟨some 62, .move (.tmp 5), none⟩,
      ⟨some 63, .call { callee := .builtin .append, args := #[.tmp 61, .tmp 62], argTypes := #[25, 25] }, none⟩,
      ⟨some 12, .assign (.tmp 63), none⟩])
    (.seq
    (.reg [
      ⟨some 64, .move (.tmp 12), none⟩,
      ⟨some 65, .indexAddr 25 (.tmp 64) (.const (.int .i64 0)), none⟩,
      ⟨some 66, .load 3 (.tmp 65), none⟩,
      ⟨some 67, .binOp .add 3 (.tmp 66) (.const (.int .i64 1)) 3, none⟩,
      ⟨some 68, .indexAddr 25 (.tmp 64) (.const (.int .i64 0)), none⟩,
      ⟨none, .store 3 (.tmp 68) (.tmp 67), none⟩])
    (.seq
    (.reg [
      ⟨some 70, .move (.tmp 12), none⟩,
      ⟨some 71, .move (.tmp 6), none⟩,
      ⟨some 72, .move (.tmp 7), none⟩,
      ⟨some 73, .call { callee := .value (.func 16), args := #[.tmp 70, .tmp 71, .tmp 72], argTypes := #[25, 3, 25] }, none⟩,
      ⟨some 69, .move (.tmp 73), none⟩,
      ⟨some 74, .extract (.tmp 69) 0, none⟩,
      ⟨some 75, .extract (.tmp 69) 1, none⟩,
      ⟨some 13, .assign (.tmp 74), none⟩,
      ⟨some 14, .assign (.tmp 75), none⟩])
    (.seq
    (.reg [
      ⟨some 76, .move (.tmp 14), none⟩,
      ⟨some 77, .unOp .not 4 (.tmp 76), none⟩,
      ⟨some 78, .move (.tmp 77), none⟩,
      ⟨some 79, .move (.tmp 13), some (78, false)⟩,
      ⟨some 80, .move (.tmp 8), some (78, false)⟩,
      ⟨some 81, .move (.tmp 7), some (78, false)⟩,
      ⟨some 82, .indexAddr 25 (.tmp 81) (.const (.int .i64 0)), some (78, false)⟩,
      ⟨some 83, .load 3 (.tmp 82), some (78, false)⟩,
      ⟨some 84, .binOp .mul 3 (.tmp 80) (.tmp 83) 3, some (78, false)⟩,
      ⟨some 85, .move (.tmp 6), some (78, false)⟩,
      ⟨some 86, .binOp .rem 3 (.tmp 84) (.tmp 85) 3, some (78, false)⟩,
      ⟨some 87, .binOp .neq 3 (.tmp 79) (.tmp 86) 3, some (78, false)⟩,
      ⟨some 88, .pick (.tmp 78) (.const (.bool true)) (.tmp 87), none⟩])
    (.cond (.tmp 88)
      (.seq
      (.reg [
        ⟨some 4, .assign (.const (.bool false)), none⟩])
      .ret)
      .skip)))))
    .skip))
  (.seq
  (.reg [
    ⟨some 90, .move (.tmp 1), none⟩,
    ⟨some 91, .call { callee := .value (.func 37), args := #[.tmp 90], argTypes := #[49] }, none⟩,
    ⟨some 89, .move (.tmp 91), none⟩,
    ⟨some 92, .extract (.tmp 89) 0, none⟩,
    ⟨some 93, .extract (.tmp 89) 1, none⟩,
    ⟨some 15, .assign (.tmp 92), none⟩,
    ⟨some 16, .assign (.tmp 93), none⟩])
  (.seq
  (.reg [
    ⟨some 95, .move (.tmp 15), none⟩,
    ⟨some 96, .move (.tmp 16), none⟩,
    ⟨some 97, .call { callee := .value (.func 13), args := #[.tmp 95, .tmp 96], argTypes := #[3, 3] }, none⟩,
    ⟨some 94, .move (.tmp 97), none⟩,
    ⟨some 98, .extract (.tmp 94) 0, none⟩,
    ⟨some 99, .extract (.tmp 94) 1, none⟩,
    ⟨some 17, .assign (.tmp 98), none⟩,
    ⟨some 18, .assign (.tmp 99), none⟩])
  (.seq
  (.reg [
    ⟨some 101, .move (.tmp 15), none⟩,
    ⟨some 102, .move (.tmp 16), none⟩,
    ⟨some 103, .call { callee := .value (.func 12), args := #[.tmp 101, .tmp 102], argTypes := #[3, 3] }, none⟩,
    ⟨some 100, .move (.tmp 103), none⟩,
    ⟨some 104, .extract (.tmp 100) 0, none⟩,
    ⟨some 105, .extract (.tmp 100) 1, none⟩,
    ⟨some 19, .assign (.tmp 104), none⟩,
    ⟨some 20, .assign (.tmp 105), none⟩])
  (.seq
  (.seq
  (.reg [
    ⟨some 106, .move (.tmp 18), none⟩,
    ⟨some 107, .move (.tmp 20), none⟩,
    ⟨some 108, .binOp .neq 4 (.tmp 106) (.tmp 107) 4, none⟩,
    ⟨some 109, .move (.tmp 108), none⟩,
    ⟨some 110, .move (.tmp 17), some (109, false)⟩,
    ⟨some 111, .move (.tmp 19), some (109, false)⟩,
    ⟨some 112, .binOp .neq 3 (.tmp 110) (.tmp 111) 3, some (109, false)⟩,
    ⟨some 113, .pick (.tmp 109) (.const (.bool true)) (.tmp 112), none⟩])
  (.cond (.tmp 113)
    (.seq
    (.reg [
      ⟨some 4, .assign (.const (.bool false)), none⟩])
    .ret)
    .skip))
  (.seq
  (.seq
  (.reg [
    ⟨some 114, .move (.tmp 18), none⟩])
  (.cond (.tmp 114)
    (.seq
    (.reg [
      ⟨some 21, .assign (.const (.int .i64 1)), none⟩])
    (.seq
    (.reg [
      ⟨some 22, .assign (.const (.int .i64 1)), none⟩])
    (.block 0
    (.loop
      (.seq
      (.seq
      (.reg [
        ⟨some 115, .move (.tmp 22), none⟩,
        ⟨some 116, .move (.tmp 17), none⟩,
        ⟨some 117, .binOp .leq 3 (.tmp 115) (.tmp 116) 3, none⟩])
      (.cond (.tmp 117)
        .skip
        (.exit 0)))
      (.seq
      (.block 1
      (.seq
      (.reg [
        ⟨some 120, .move (.tmp 21), none⟩,
        ⟨some 121, .move (.tmp 15), none⟩,
        ⟨some 122, .binOp .mul 3 (.tmp 120) (.tmp 121) 3, none⟩,
        ⟨some 123, .move (.tmp 16), none⟩,
        ⟨some 124, .binOp .rem 3 (.tmp 122) (.tmp 123) 3, none⟩,
        ⟨some 21, .assign (.tmp 124), none⟩])
      (.seq
      (.reg [
        ⟨some 125, .move (.tmp 21), none⟩,
        ⟨some 126, .binOp .eql 3 (.tmp 125) (.const (.int .i64 1)) 3, none⟩,
        ⟨some 127, .move (.tmp 22), none⟩,
        ⟨some 128, .move (.tmp 17), none⟩,
        ⟨some 129, .binOp .eql 3 (.tmp 127) (.tmp 128) 3, none⟩,
        ⟨some 130, .binOp .neq 4 (.tmp 126) (.tmp 129) 4, none⟩])
      (.cond (.tmp 130)
        (.seq
        (.reg [
          ⟨some 4, .assign (.const (.bool false)), none⟩])
        .ret)
        .skip))))
      (.reg [
        ⟨some 118, .move (.tmp 22), none⟩,
        ⟨some 119, .binOp .add 3 (.tmp 118) (.const (.int .i64 1)) 3, none⟩,
        ⟨some 22, .assign (.tmp 119), none⟩])))))))
    .skip))
  (.seq
  (.reg [
    ⟨some 4, .assign (.const (.bool true)), none⟩])
  .ret)))))))))))))
theorem hd10 : Try.f10.body.map dec = some c10 := by kernel_rfl
theorem e10 {R : AV → AH → Prop} {h : AH} (x0 x1 : AV) (H : h.wf → AI Try.prog c10 (RetQ Try.prog [.tmp 4] R) [x0, x1, un, un, un, un, un, un, un, un, un, un, un, un, un, un, un, un, un, un, un, un, un, un, un, un, un, un, un, un, un, un, un, un, un, un, un, un, un, un, un, un, un, un, un, un, un, un, un, un, un, un, un, un, un, un, un, un, un, un, un, un, un, un, un, un, un, un, un, un, un, un, un, un, un, un, un, un, un, un, un, un, un, un, un, un, un, un, un, un, un, un, un, un, un, un, un, un, un, un, un, un, un, un, un, un, un, un, un, un, un, un, un, un, un, un, un, un, un, un, un, un, un, un, un, un, un, un, un, un, un] h) : AC Try.prog 10 [x0, x1] h R :=
  AC_of' (rs := [.tmp 4]) Try.func10 (by kernel_rfl) hd10 Try.ntmps10 rfl H

end Go.Proofs.Ytfgealbhigkddaa
