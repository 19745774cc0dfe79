/- The short forms of the functions' code, and facts on types. -/
import Derived.Test.YtfgealbhigkddaaProg
import Derived.Test.YtfgealbhigkddaaD1
namespace Go.Proofs.Ytfgealbhigkddaa
open Go.AL
set_option linter.unusedVariables false
theorem sz0 : szT Try.prog 0 = some 1 := by kernel_rfl
theorem by0 : byT Try.prog 0 = some 0 := by kernel_rfl
theorem ag0 : aggT Try.prog 0 = some false := by kernel_rfl
instance jsz0 : Tsz Try.prog 0 1 := ⟨sz0⟩
instance jby0 : Tby Try.prog 0 0 := ⟨by0⟩
instance jag0 : Tag Try.prog 0 false := ⟨ag0⟩
theorem sz1 : szT Try.prog 1 = some 1 := by kernel_rfl
theorem by1 : byT Try.prog 1 = some 8 := by kernel_rfl
theorem ag1 : aggT Try.prog 1 = some false := by kernel_rfl
instance jsz1 : Tsz Try.prog 1 1 := ⟨sz1⟩
instance jby1 : Tby Try.prog 1 8 := ⟨by1⟩
instance jag1 : Tag Try.prog 1 false := ⟨ag1⟩
theorem ze1 : zeroA Try.prog 1 = some .nf := by kernel_rfl
instance jze1 : Tze Try.prog 1 (.nf) := ⟨ze1⟩
theorem sz2 : szT Try.prog 2 = some 1 := by kernel_rfl
theorem by2 : byT Try.prog 2 = some 8 := by kernel_rfl
theorem ag2 : aggT Try.prog 2 = some false := by kernel_rfl
instance jsz2 : Tsz Try.prog 2 1 := ⟨sz2⟩
instance jby2 : Tby Try.prog 2 8 := ⟨by2⟩
instance jag2 : Tag Try.prog 2 false := ⟨ag2⟩
instance jik2 : Tik Try.prog 2 .i64 := ⟨Try.underlying2⟩
theorem ze2 : zeroA Try.prog 2 = some (.i .i64 0) := by kernel_rfl
instance jze2 : Tze Try.prog 2 (.i .i64 0) := ⟨ze2⟩
theorem sz3 : szT Try.prog 3 = some 1 := by kernel_rfl
theorem by3 : byT Try.prog 3 = some 8 := by kernel_rfl
theorem ag3 : aggT Try.prog 3 = some false := by kernel_rfl
instance jsz3 : Tsz Try.prog 3 1 := ⟨sz3⟩
instance jby3 : Tby Try.prog 3 8 := ⟨by3⟩
instance jag3 : Tag Try.prog 3 false := ⟨ag3⟩
instance jik3 : Tik Try.prog 3 .i64 := ⟨Try.underlying3⟩
theorem ze3 : zeroA Try.prog 3 = some (.i .i64 0) := by kernel_rfl
instance jze3 : Tze Try.prog 3 (.i .i64 0) := ⟨ze3⟩
theorem sz4 : szT Try.prog 4 = some 1 := by kernel_rfl
theorem by4 : byT Try.prog 4 = some 1 := by kernel_rfl
theorem ag4 : aggT Try.prog 4 = some false := by kernel_rfl
instance jsz4 : Tsz Try.prog 4 1 := ⟨sz4⟩
instance jby4 : Tby Try.prog 4 1 := ⟨by4⟩
instance jag4 : Tag Try.prog 4 false := ⟨ag4⟩
instance jbo4 : Tbo Try.prog 4 := ⟨Try.underlying4⟩
theorem ze4 : zeroA Try.prog 4 = some (.b false) := by kernel_rfl
instance jze4 : Tze Try.prog 4 (.b false) := ⟨ze4⟩
theorem sz5 : szT Try.prog 5 = some 1 := by kernel_rfl
theorem by5 : byT Try.prog 5 = some 1 := by kernel_rfl
theorem ag5 : aggT Try.prog 5 = some false := by kernel_rfl
instance jsz5 : Tsz Try.prog 5 1 := ⟨sz5⟩
instance jby5 : Tby Try.prog 5 1 := ⟨by5⟩
instance jag5 : Tag Try.prog 5 false := ⟨ag5⟩
instance jik5 : Tik Try.prog 5 .u8 := ⟨Try.underlying5⟩
theorem ze5 : zeroA Try.prog 5 = some (.i .u8 0) := by kernel_rfl
instance jze5 : Tze Try.prog 5 (.i .u8 0) := ⟨ze5⟩
theorem sz6 : szT Try.prog 6 = some 1 := by kernel_rfl
theorem by6 : byT Try.prog 6 = some 1 := by kernel_rfl
theorem ag6 : aggT Try.prog 6 = some false := by kernel_rfl
instance jsz6 : Tsz Try.prog 6 1 := ⟨sz6⟩
instance jby6 : Tby Try.prog 6 1 := ⟨by6⟩
instance jag6 : Tag Try.prog 6 false := ⟨ag6⟩
instance jik6 : Tik Try.prog 6 .u8 := ⟨Try.underlying6⟩
theorem ze6 : zeroA Try.prog 6 = some (.i .u8 0) := by kernel_rfl
instance jze6 : Tze Try.prog 6 (.i .u8 0) := ⟨ze6⟩
theorem sz25 : szT Try.prog 25 = some 1 := by kernel_rfl
theorem by25 : byT Try.prog 25 = some 24 := by kernel_rfl
theorem ag25 : aggT Try.prog 25 = some false := by kernel_rfl
instance jsz25 : Tsz Try.prog 25 1 := ⟨sz25⟩
instance jby25 : Tby Try.prog 25 24 := ⟨by25⟩
instance jag25 : Tag Try.prog 25 false := ⟨ag25⟩
instance jsl25 : Tsl Try.prog 25 3 := ⟨Try.underlying25⟩
theorem ze25 : zeroA Try.prog 25 = some .ns := by kernel_rfl
instance jze25 : Tze Try.prog 25 (.ns) := ⟨ze25⟩
theorem sz31 : szT Try.prog 31 = some 4 := by kernel_rfl
theorem by31 : byT Try.prog 31 = some 32 := by kernel_rfl
theorem ag31 : aggT Try.prog 31 = some true := by kernel_rfl
instance jsz31 : Tsz Try.prog 31 4 := ⟨sz31⟩
instance jby31 : Tby Try.prog 31 32 := ⟨by31⟩
instance jag31 : Tag Try.prog 31 true := ⟨ag31⟩
theorem ze31 : zeroA Try.prog 31 = some (.agg [(.i .i64 0), (.i .i64 0), (.i .i64 0), (.i .i64 0)]) := by kernel_rfl
instance jze31 : Tze Try.prog 31 (.agg [(.i .i64 0), (.i .i64 0), (.i .i64 0), (.i .i64 0)]) := ⟨ze31⟩
theorem fl31_0 : fldA Try.prog 31 0 = some (0, 1, false) := by kernel_rfl
instance jfl31_0 : Tfl Try.prog 31 0 0 1 false := ⟨fl31_0⟩
theorem fl31_1 : fldA Try.prog 31 1 = some (1, 1, false) := by kernel_rfl
instance jfl31_1 : Tfl Try.prog 31 1 1 1 false := ⟨fl31_1⟩
theorem fl31_2 : fldA Try.prog 31 2 = some (2, 1, false) := by kernel_rfl
instance jfl31_2 : Tfl Try.prog 31 2 2 1 false := ⟨fl31_2⟩
theorem fl31_3 : fldA Try.prog 31 3 = some (3, 1, false) := by kernel_rfl
instance jfl31_3 : Tfl Try.prog 31 3 3 1 false := ⟨fl31_3⟩
theorem pa31 : plA Try.prog 31 = some [(0, 1), (1, 1), (2, 1), (3, 1)] := by kernel_rfl
instance jpl31 : Tpl Try.prog 31 [(0, 1), (1, 1), (2, 1), (3, 1)] := ⟨pa31⟩
theorem sz32 : szT Try.prog 32 = some 4 := by kernel_rfl
theorem by32 : byT Try.prog 32 = some 32 := by kernel_rfl
theorem ag32 : aggT Try.prog 32 = some true := by kernel_rfl
instance jsz32 : Tsz Try.prog 32 4 := ⟨sz32⟩
instance jby32 : Tby Try.prog 32 32 := ⟨by32⟩
instance jag32 : Tag Try.prog 32 true := ⟨ag32⟩
theorem ze32 : zeroA Try.prog 32 = some (.agg [(.i .i64 0), (.i .i64 0), (.i .i64 0), (.i .i64 0)]) := by kernel_rfl
instance jze32 : Tze Try.prog 32 (.agg [(.i .i64 0), (.i .i64 0), (.i .i64 0), (.i .i64 0)]) := ⟨ze32⟩
theorem fl32_0 : fldA Try.prog 32 0 = some (0, 1, false) := by kernel_rfl
instance jfl32_0 : Tfl Try.prog 32 0 0 1 false := ⟨fl32_0⟩
theorem fl32_1 : fldA Try.prog 32 1 = some (1, 1, false) := by kernel_rfl
instance jfl32_1 : Tfl Try.prog 32 1 1 1 false := ⟨fl32_1⟩
theorem fl32_2 : fldA Try.prog 32 2 = some (2, 1, false) := by kernel_rfl
instance jfl32_2 : Tfl Try.prog 32 2 2 1 false := ⟨fl32_2⟩
theorem fl32_3 : fldA Try.prog 32 3 = some (3, 1, false) := by kernel_rfl
instance jfl32_3 : Tfl Try.prog 32 3 3 1 false := ⟨fl32_3⟩
theorem pa32 : plA Try.prog 32 = some [(0, 1), (1, 1), (2, 1), (3, 1)] := by kernel_rfl
instance jpl32 : Tpl Try.prog 32 [(0, 1), (1, 1), (2, 1), (3, 1)] := ⟨pa32⟩
theorem sz41 : szT Try.prog 41 = some 1 := by kernel_rfl
theorem by41 : byT Try.prog 41 = some 8 := by kernel_rfl
theorem ag41 : aggT Try.prog 41 = some false := by kernel_rfl
instance jsz41 : Tsz Try.prog 41 1 := ⟨sz41⟩
instance jby41 : Tby Try.prog 41 8 := ⟨by41⟩
instance jag41 : Tag Try.prog 41 false := ⟨ag41⟩
theorem ze41 : zeroA Try.prog 41 = some .nf := by kernel_rfl
instance jze41 : Tze Try.prog 41 (.nf) := ⟨ze41⟩
theorem sz42 : szT Try.prog 42 = some 1 := by kernel_rfl
theorem by42 : byT Try.prog 42 = some 24 := by kernel_rfl
theorem ag42 : aggT Try.prog 42 = some false := by kernel_rfl
instance jsz42 : Tsz Try.prog 42 1 := ⟨sz42⟩
instance jby42 : Tby Try.prog 42 24 := ⟨by42⟩
instance jag42 : Tag Try.prog 42 false := ⟨ag42⟩
instance jsl42 : Tsl Try.prog 42 25 := ⟨Try.underlying42⟩
theorem ze42 : zeroA Try.prog 42 = some .ns := by kernel_rfl
instance jze42 : Tze Try.prog 42 (.ns) := ⟨ze42⟩

/-- laws.toMatrix -/
def c19 : IC :=
  (.seq
  (.reg [
    ⟨some 1, .box 31 (.tmp 0), none⟩,
    ⟨some 2, .alloc 32, none⟩])
  (.seq
  (.reg [
    ⟨some 3, .alloc 32, none⟩])
  (.seq
  (.reg [
    ⟨some 4, .fieldAddr 31 (.tmp 1) 0, none⟩,
    ⟨some 5, .load 3 (.tmp 4), none⟩,
    ⟨some 6, .fieldAddr 32 (.tmp 3) 0, none⟩,
    ⟨none, .store 3 (.tmp 6) (.tmp 5), none⟩])
  (.seq
  (.reg [
    ⟨some 7, .fieldAddr 31 (.tmp 1) 1, none⟩,
    ⟨some 8, .load 3 (.tmp 7), none⟩,
    ⟨some 9, .fieldAddr 32 (.tmp 3) 1, none⟩,
    ⟨none, .store 3 (.tmp 9) (.tmp 8), none⟩])
  (.seq
  (.reg [
    ⟨some 10, .fieldAddr 31 (.tmp 1) 2, none⟩,
    ⟨some 11, .load 3 (.tmp 10), none⟩,
    ⟨some 12, .fieldAddr 32 (.tmp 3) 2, none⟩,
    ⟨none, .store 3 (.tmp 12) (.tmp 11), none⟩])
  (.seq
  (.reg [
    ⟨some 13, .fieldAddr 31 (.tmp 1) 3, none⟩,
    ⟨some 14, .load 3 (.tmp 13), none⟩,
    ⟨some 15, .fieldAddr 32 (.tmp 3) 3, none⟩,
    ⟨none, .store 3 (.tmp 15) (.tmp 14), none⟩])
  (.seq
  (.reg [
    ⟨some 16, .load 32 (.tmp 3), none⟩,
    ⟨none, .store 32 (.tmp 2) (.tmp 16), none⟩])
  .ret)))))))
theorem hd19 : Try.f19.body.map dec = some c19 := by kernel_rfl
theorem e19 {R : AV → AH → Prop} {h : AH} (x0 : AV) (H : h.wf → AI Try.prog c19 (RetQ Try.prog [.cell 2 32] R) [x0, un, un, un, un, un, un, un, un, un, un, un, un, un, un, un, un] h) : AC Try.prog 19 [x0] h R :=
  AC_of' (rs := [.cell 2 32]) Try.func19 (by kernel_rfl) hd19 Try.ntmps19 rfl H

/-- laws.eqMatrix -/
def c21 : IC :=
  (.seq
  (.reg [
    ⟨some 2, .box 32 (.tmp 0), none⟩,
    ⟨some 3, .box 32 (.tmp 1), none⟩,
    ⟨some 4, .assign (.const (.bool false)), none⟩])
  (.seq
  (.seq
  (.reg [
    ⟨some 5, .fieldAddr 32 (.tmp 2) 0, none⟩,
    ⟨some 6, .load 3 (.tmp 5), none⟩,
    ⟨some 7, .fieldAddr 32 (.tmp 3) 0, none⟩,
    ⟨some 8, .load 3 (.tmp 7), none⟩,
    ⟨some 9, .binOp .neq 3 (.tmp 6) (.tmp 8) 3, none⟩])
  (.cond (.tmp 9)
    (.seq
    (.reg [
      ⟨some 4, .assign (.const (.bool false)), none⟩])
    .ret)
    .skip))
  (.seq
  (.seq
  (.reg [
    ⟨some 10, .fieldAddr 32 (.tmp 2) 1, none⟩,
    ⟨some 11, .load 3 (.tmp 10), none⟩,
    ⟨some 12, .fieldAddr 32 (.tmp 3) 1, none⟩,
    ⟨some 13, .load 3 (.tmp 12), none⟩,
    ⟨some 14, .binOp .neq 3 (.tmp 11) (.tmp 13) 3, none⟩])
  (.cond (.tmp 14)
    (.seq
    (.reg [
      ⟨some 4, .assign (.const (.bool false)), none⟩])
    .ret)
    .skip))
  (.seq
  (.seq
  (.reg [
    ⟨some 15, .fieldAddr 32 (.tmp 2) 2, none⟩,
    ⟨some 16, .load 3 (.tmp 15), none⟩,
    ⟨some 17, .fieldAddr 32 (.tmp 3) 2, none⟩,
    ⟨some 18, .load 3 (.tmp 17), none⟩,
    ⟨some 19, .binOp .neq 3 (.tmp 16) (.tmp 18) 3, none⟩])
  (.cond (.tmp 19)
    (.seq
    (.reg [
      ⟨some 4, .assign (.const (.bool false)), none⟩])
    .ret)
    .skip))
  (.seq
  (.seq
  (.reg [
    ⟨some 20, .fieldAddr 32 (.tmp 2) 3, none⟩,
    ⟨some 21, .load 3 (.tmp 20), none⟩,
    ⟨some 22, .fieldAddr 32 (.tmp 3) 3, none⟩,
    ⟨some 23, .load 3 (.tmp 22), none⟩,
    ⟨some 24, .binOp .neq 3 (.tmp 21) (.tmp 23) 3, none⟩])
  (.cond (.tmp 24)
    (.seq
    (.reg [
      ⟨some 4, .assign (.const (.bool false)), none⟩])
    .ret)
    .skip))
  (.seq
  (.reg [
    ⟨some 4, .assign (.const (.bool true)), none⟩])
  .ret))))))
theorem hd21 : Try.f21.body.map dec = some c21 := by kernel_rfl
theorem e21 {R : AV → AH → Prop} {h : AH} (x0 x1 : AV) (H : h.wf → AI Try.prog c21 (RetQ Try.prog [.tmp 4] R) [x0, x1, un, un, un, un, un, un, un, un, un, un, un, un, un, un, un, un, un, un, un, un, un, un, un] h) : AC Try.prog 21 [x0, x1] h R :=
  AC_of' (rs := [.tmp 4]) Try.func21 (by kernel_rfl) hd21 Try.ntmps21 rfl H

/-- spec.l1In -/
def c42 : IC :=
  (.seq
  (.reg [
    ⟨some 6, .assign (.const (.bool false)), none⟩])
  (.seq
  (.reg [
    ⟨some 7, .move (.tmp 0), none⟩,
    ⟨some 8, .move (.tmp 1), none⟩,
    ⟨some 9, .binOp .geq 3 (.tmp 7) (.tmp 8) 3, none⟩,
    ⟨some 10, .move (.tmp 9), none⟩,
    ⟨some 11, .move (.tmp 0), some (10, true)⟩,
    ⟨some 12, .move (.tmp 2), some (10, true)⟩,
    ⟨some 13, .binOp .leq 3 (.tmp 11) (.tmp 12) 3, some (10, true)⟩,
    ⟨some 14, .pick (.tmp 10) (.tmp 13) (.const (.bool false)), none⟩,
    ⟨some 6, .assign (.tmp 14), none⟩])
  .ret))
theorem hd42 : Try.f42.body.map dec = some c42 := by kernel_rfl
theorem e42 {R : AV → AH → Prop} {h : AH} (x0 x1 x2 : AV) (H : h.wf → AI Try.prog c42 (RetQ Try.prog [.tmp 6] R) [x0, x1, x2, un, un, un, un, un, un, un, un, un, un, un, un] h) : AC Try.prog 42 [x0, x1, x2] h R :=
  AC_of' (rs := [.tmp 6]) Try.func42 (by kernel_rfl) hd42 Try.ntmps42 rfl H

/-- spec.moModulus -/
def c41 : IC :=
  (.seq
  (.reg [
    ⟨some 2, .assign (.const (.bool false)), none⟩])
  (.seq
  (.reg [
    ⟨some 3, .move (.tmp 0), none⟩,
    ⟨some 4, .call { callee := .value (.func 42), args := #[.tmp 3, .const (.int .i64 2), .const (.int .i64 10000)], argTypes := #[3, 3, 3] }, none⟩,
    ⟨some 2, .assign (.tmp 4), none⟩])
  .ret))
theorem hd41 : Try.f41.body.map dec = some c41 := by kernel_rfl
theorem e41 {R : AV → AH → Prop} {h : AH} (x0 : AV) (H : h.wf → AI Try.prog c41 (RetQ Try.prog [.tmp 2] R) [x0, un, un, un, un] h) : AC Try.prog 41 [x0] h R :=
  AC_of' (rs := [.tmp 2]) Try.func41 (by kernel_rfl) hd41 Try.ntmps41 rfl H

/-- spec.l1All -/
def c44 : IC :=
  (.seq
  (.reg [
    ⟨some 6, .assign (.const (.bool false)), none⟩])
  (.seq
  (.seq
  (.reg [
    ⟨some 9, .move (.tmp 0), none⟩,
    ⟨some 10, .call { callee := .builtin .len, args := #[.tmp 9], argTypes := #[25] }, none⟩,
    ⟨some 11, .move (.const (.int .i64 0)), none⟩])
  (.block 0
  (.loop
    (.seq
    (.reg [
      ⟨some 12, .binOp .lss 3 (.tmp 11) (.tmp 10) 3, none⟩])
    (.seq
    (.cond (.tmp 12)
      .skip
      (.exit 0))
    (.seq
    (.block 1
    (.seq
    (.reg [
      ⟨some 13, .indexAddr 25 (.tmp 9) (.tmp 11), none⟩,
      ⟨some 14, .load 3 (.tmp 13), none⟩,
      ⟨some 8, .assign (.tmp 14), none⟩])
    (.seq
    (.reg [
      ⟨some 15, .move (.tmp 8), none⟩,
      ⟨some 16, .move (.tmp 1), none⟩,
      ⟨some 17, .move (.tmp 2), none⟩,
      ⟨some 18, .call { callee := .value (.func 42), args := #[.tmp 15, .tmp 16, .tmp 17], argTypes := #[3, 3, 3] }, none⟩,
      ⟨some 19, .unOp .not 4 (.tmp 18), none⟩])
    (.cond (.tmp 19)
      (.seq
      (.reg [
        ⟨some 6, .assign (.const (.bool false)), none⟩])
      .ret)
      .skip))))
    (.reg [
      ⟨some 20, .binOp .add 3 (.tmp 11) (.const (.int .i64 1)) 3, none⟩,
      ⟨some 11, .move (.tmp 20), none⟩])))))))
  (.seq
  (.reg [
    ⟨some 6, .assign (.const (.bool true)), none⟩])
  .ret)))
theorem hd44 : Try.f44.body.map dec = some c44 := by kernel_rfl
theorem e44 {R : AV → AH → Prop} {h : AH} (x0 x1 x2 : AV) (H : h.wf → AI Try.prog c44 (RetQ Try.prog [.tmp 6] R) [x0, x1, x2, un, un, un, un, un, un, un, un, un, un, un, un, un, un, un, un, un, un] h) : AC Try.prog 44 [x0, x1, x2] h R :=
  AC_of' (rs := [.tmp 6]) Try.func44 (by kernel_rfl) hd44 Try.ntmps44 rfl H

/-- spec.moMatrix -/
def c52 : IC :=
  (.seq
  (.reg [
    ⟨some 2, .box 32 (.tmp 0), none⟩,
    ⟨some 4, .assign (.const (.bool false)), none⟩])
  (.seq
  (.reg [
    ⟨some 5, .fieldAddr 32 (.tmp 2) 0, none⟩,
    ⟨some 6, .load 3 (.tmp 5), none⟩,
    ⟨some 7, .fieldAddr 32 (.tmp 2) 1, none⟩,
    ⟨some 8, .load 3 (.tmp 7), none⟩,
    ⟨some 9, .fieldAddr 32 (.tmp 2) 2, none⟩,
    ⟨some 10, .load 3 (.tmp 9), none⟩,
    ⟨some 11, .fieldAddr 32 (.tmp 2) 3, none⟩,
    ⟨some 12, .load 3 (.tmp 11), none⟩,
    ⟨some 13, .buildSlice 25 4 #[(0, .tmp 6), (1, .tmp 8), (2, .tmp 10), (3, .tmp 12)], none⟩,
    ⟨some 14, .move (.tmp 1), none⟩,
    ⟨some 15, .binOp .sub 3 (.tmp 14) (.const (.int .i64 1)) 3, none⟩,
    ⟨some 16, .call { callee := .value (.func 44), args := #[.tmp 13, .const (.int .i64 0), .tmp 15], argTypes := #[25, 3, 3] }, none⟩,
    ⟨some 4, .assign (.tmp 16), none⟩])
  .ret))
theorem hd52 : Try.f52.body.map dec = some c52 := by kernel_rfl
theorem e52 {R : AV → AH → Prop} {h : AH} (x0 x1 : AV) (H : h.wf → AI Try.prog c52 (RetQ Try.prog [.tmp 4] R) [x0, x1, un, un, un, un, un, un, un, un, un, un, un, un, un, un, un] h) : AC Try.prog 52 [x0, x1] h R :=
  AC_of' (rs := [.tmp 4]) Try.func52 (by kernel_rfl) hd52 Try.ntmps52 rfl H

noncomputable def rg54_0 : Array Oper := rawAt Try.f54 0
-- NO ORDER
/-- spec.moTimes -/
noncomputable def c54 : IC :=
  (.seq
  (.reg [
    ⟨some 3, .box 32 (.tmp 0), none⟩,
    ⟨some 4, .box 32 (.tmp 1), none⟩,
    ⟨some 6, .alloc 32, none⟩])
  (.seq
  (.raw (.region 1 rg54_0 true))
  .ret))
theorem hd54 : Try.f54.body.map dec = some c54 := by kernel_rfl
theorem e54 {R : AV → AH → Prop} {h : AH} (x0 x1 x2 : AV) (H : h.wf → AI Try.prog c54 (RetQ Try.prog [.cell 6 32] R) [x0, x1, x2, un, un, un, un, un, un, un, un, un, un, un, un, un, un, un, un, un, un, un, un, un, un, un, un, un, un, un, un, un, un, un, un, un, un, un, un, un, un, un, un, un, un, un, un, un, un, un, un, un, un, un, un, un, un, un, un, un] h) : AC Try.prog 54 [x0, x1, x2] h R :=
  AC_of' (rs := [.cell 6 32]) Try.func54 (by kernel_rfl) hd54 Try.ntmps54 rfl H
theorem dz54_0 {h0 : AH} {L : List It} {Q : Exit → List AV → List It → Prop} {a : List AV} {id : Nat} (H : LX Try.prog ⟨[53], []⟩ h0 L L (.c (⟨some 7, .fieldAddr 32 (.tmp 3) 0, none⟩, .p) <| .c (⟨some 8, .load 3 (.tmp 7), none⟩, .l) <| .c (⟨some 9, .fieldAddr 32 (.tmp 4) 0, none⟩, .p) <| .c (⟨some 10, .load 3 (.tmp 9), none⟩, .l) <| .c (⟨some 11, .binOp .mul 3 (.tmp 8) (.tmp 10) 3, none⟩, .p) <| .c (⟨some 12, .fieldAddr 32 (.tmp 3) 1, none⟩, .p) <| .c (⟨some 13, .load 3 (.tmp 12), none⟩, .l) <| .c (⟨some 14, .fieldAddr 32 (.tmp 4) 2, none⟩, .p) <| .c (⟨some 15, .load 3 (.tmp 14), none⟩, .l) <| .c (⟨some 16, .binOp .mul 3 (.tmp 13) (.tmp 15) 3, none⟩, .p) <| .c (⟨some 17, .binOp .add 3 (.tmp 11) (.tmp 16) 3, none⟩, .p) <| .c (⟨some 18, .move (.tmp 2), none⟩, .p) <| .c (⟨some 19, .binOp .rem 3 (.tmp 17) (.tmp 18) 3, none⟩, .p) <| .c (⟨some 20, .fieldAddr 32 (.tmp 3) 0, none⟩, .p) <| .c (⟨some 21, .load 3 (.tmp 20), none⟩, .l) <| .c (⟨some 22, .fieldAddr 32 (.tmp 4) 1, none⟩, .p) <| .c (⟨some 23, .load 3 (.tmp 22), none⟩, .l) <| .c (⟨some 24, .binOp .mul 3 (.tmp 21) (.tmp 23) 3, none⟩, .p) <| .c (⟨some 25, .fieldAddr 32 (.tmp 3) 1, none⟩, .p) <| .c (⟨some 26, .load 3 (.tmp 25), none⟩, .l) <| .c (⟨some 27, .fieldAddr 32 (.tmp 4) 3, none⟩, .p) <| .c (⟨some 28, .load 3 (.tmp 27), none⟩, .l) <| .c (⟨some 29, .binOp .mul 3 (.tmp 26) (.tmp 28) 3, none⟩, .p) <| .c (⟨some 30, .binOp .add 3 (.tmp 24) (.tmp 29) 3, none⟩, .p) <| .c (⟨some 31, .move (.tmp 2), none⟩, .p) <| .c (⟨some 32, .binOp .rem 3 (.tmp 30) (.tmp 31) 3, none⟩, .p) <| .c (⟨some 33, .fieldAddr 32 (.tmp 3) 2, none⟩, .p) <| .c (⟨some 34, .load 3 (.tmp 33), none⟩, .l) <| .c (⟨some 35, .fieldAddr 32 (.tmp 4) 0, none⟩, .p) <| .c (⟨some 36, .load 3 (.tmp 35), none⟩, .l) <| .c (⟨some 37, .binOp .mul 3 (.tmp 34) (.tmp 36) 3, none⟩, .p) <| .c (⟨some 38, .fieldAddr 32 (.tmp 3) 3, none⟩, .p) <| .c (⟨some 39, .load 3 (.tmp 38), none⟩, .l) <| .c (⟨some 40, .fieldAddr 32 (.tmp 4) 2, none⟩, .p) <| .c (⟨some 41, .load 3 (.tmp 40), none⟩, .l) <| .c (⟨some 42, .binOp .mul 3 (.tmp 39) (.tmp 41) 3, none⟩, .p) <| .c (⟨some 43, .binOp .add 3 (.tmp 37) (.tmp 42) 3, none⟩, .p) <| .c (⟨some 44, .move (.tmp 2), none⟩, .p) <| .c (⟨some 45, .binOp .rem 3 (.tmp 43) (.tmp 44) 3, none⟩, .p) <| .c (⟨some 46, .fieldAddr 32 (.tmp 3) 2, none⟩, .p) <| .c (⟨some 47, .load 3 (.tmp 46), none⟩, .l) <| .c (⟨some 48, .fieldAddr 32 (.tmp 4) 1, none⟩, .p) <| .c (⟨some 49, .load 3 (.tmp 48), none⟩, .l) <| .c (⟨some 50, .binOp .mul 3 (.tmp 47) (.tmp 49) 3, none⟩, .p) <| .c (⟨some 51, .fieldAddr 32 (.tmp 3) 3, none⟩, .p) <| .c (⟨some 52, .load 3 (.tmp 51), none⟩, .l) <| .c (⟨some 53, .fieldAddr 32 (.tmp 4) 3, none⟩, .p) <| .c (⟨some 54, .load 3 (.tmp 53), none⟩, .l) <| .c (⟨some 55, .binOp .mul 3 (.tmp 52) (.tmp 54) 3, none⟩, .p) <| .c (⟨some 56, .binOp .add 3 (.tmp 50) (.tmp 55) 3, none⟩, .p) <| .c (⟨some 57, .move (.tmp 2), none⟩, .p) <| .c (⟨some 58, .binOp .rem 3 (.tmp 56) (.tmp 57) 3, none⟩, .p) <| .c (⟨some 59, .build 32 #[(0, .tmp 19), (1, .tmp 32), (2, .tmp 45), (3, .tmp 58)], none⟩, .p) <| .c (⟨none, .store 32 (.tmp 6) (.tmp 59), none⟩, .f) <| .n) Q a) : LI Try.prog h0 L (.raw (.region id rg54_0 true)) Q a :=
  LI_draw (.c (0, .p) <| .c (1, .l) <| .c (2, .p) <| .c (3, .l) <| .c (4, .p) <| .c (5, .p) <| .c (6, .l) <| .c (7, .p) <| .c (8, .l) <| .c (9, .p) <| .c (10, .p) <| .c (11, .p) <| .c (12, .p) <| .c (13, .p) <| .c (14, .l) <| .c (15, .p) <| .c (16, .l) <| .c (17, .p) <| .c (18, .p) <| .c (19, .l) <| .c (20, .p) <| .c (21, .l) <| .c (22, .p) <| .c (23, .p) <| .c (24, .p) <| .c (25, .p) <| .c (26, .p) <| .c (27, .l) <| .c (28, .p) <| .c (29, .l) <| .c (30, .p) <| .c (31, .p) <| .c (32, .l) <| .c (33, .p) <| .c (34, .l) <| .c (35, .p) <| .c (36, .p) <| .c (37, .p) <| .c (38, .p) <| .c (39, .p) <| .c (40, .l) <| .c (41, .p) <| .c (42, .l) <| .c (43, .p) <| .c (44, .p) <| .c (45, .l) <| .c (46, .p) <| .c (47, .l) <| .c (48, .p) <| .c (49, .p) <| .c (50, .p) <| .c (51, .p) <| .c (52, .p) <| .c (53, .f) <| .n) [53] (by kernel_rfl) (by kernel_rfl) (by kernel_rfl) H

/-- spec.MatrixProduct -/
def c22 : IC :=
  (.seq
  (.reg [
    ⟨some 3, .box 32 (.tmp 0), none⟩,
    ⟨some 4, .box 32 (.tmp 1), none⟩,
    ⟨some 6, .alloc 32, none⟩,
    ⟨some 7, .assign (.const (.bool false)), none⟩])
  (.seq
  (.seq
  (.reg [
    ⟨some 8, .move (.tmp 2), none⟩,
    ⟨some 9, .call { callee := .value (.func 41), args := #[.tmp 8], argTypes := #[3] }, none⟩,
    ⟨some 10, .unOp .not 4 (.tmp 9), none⟩,
    ⟨some 11, .move (.tmp 10), none⟩,
    ⟨some 12, .load 32 (.tmp 3), some (11, false)⟩,
    ⟨some 13, .move (.tmp 2), some (11, false)⟩,
    ⟨some 14, .call { callee := .value (.func 52), args := #[.tmp 12, .tmp 13], argTypes := #[32, 3] }, some (11, false)⟩,
    ⟨some 15, .unOp .not 4 (.tmp 14), some (11, false)⟩,
    ⟨some 16, .pick (.tmp 11) (.const (.bool true)) (.tmp 15), none⟩,
    ⟨some 17, .move (.tmp 16), none⟩,
    ⟨some 18, .load 32 (.tmp 4), some (17, false)⟩,
    ⟨some 19, .move (.tmp 2), some (17, false)⟩,
    ⟨some 20, .call { callee := .value (.func 52), args := #[.tmp 18, .tmp 19], argTypes := #[32, 3] }, some (17, false)⟩,
    ⟨some 21, .unOp .not 4 (.tmp 20), some (17, false)⟩,
    ⟨some 22, .pick (.tmp 17) (.const (.bool true)) (.tmp 21), none⟩])
  (.cond (.tmp 22)
    (.seq
    (.reg [
      ⟨some 23, .build 32 #[], none⟩,
      ⟨none, .store 32 (.tmp 6) (.tmp 23), none⟩,
      ⟨some 7, .assign (.const (.bool false)), none⟩])
    .ret)
    .skip))
  (.seq
  (.reg [
    ⟨some 24, .load 32 (.tmp 3), none⟩,
    ⟨some 25, .load 32 (.tmp 4), none⟩,
    ⟨some 26, .move (.tmp 2), none⟩,
    ⟨some 27, .call { callee := .value (.func 54), args := #[.tmp 24, .tmp 25, .tmp 26], argTypes := #[32, 32, 3] }, none⟩,
    ⟨none, .store 32 (.tmp 6) (.tmp 27), none⟩,
    ⟨some 7, .assign (.const (.bool true)), none⟩])
  .ret)))
theorem hd22 : Try.f22.body.map dec = some c22 := by kernel_rfl
theorem e22 {R : AV → AH → Prop} {h : AH} (x0 x1 x2 : AV) (H : h.wf → AI Try.prog c22 (RetQ Try.prog [.cell 6 32, .tmp 7] R) [x0, x1, x2, un, un, un, un, un, un, un, un, un, un, un, un, un, un, un, un, un, un, un, un, un, un, un, un, un] h) : AC Try.prog 22 [x0, x1, x2] h R :=
  AC_of' (rs := [.cell 6 32, .tmp 7]) Try.func22 (by kernel_rfl) hd22 Try.ntmps22 rfl H

/-- slices.IndexFunc[[]int,int] -/
def c78 : IC :=
  (.seq
  (.reg [
    ⟨some 4, .assign (.const (.int .i64 0)), none⟩])
  (.seq
  (.seq
  (.reg [
    ⟨some 6, .move (.tmp 0), none⟩,
    ⟨some 7, .call { callee := .builtin .len, args := #[.tmp 6], argTypes := #[25] }, none⟩,
    ⟨some 8, .move (.const (.int .i64 0)), none⟩])
  (.block 0
  (.loop
    (.seq
    (.reg [
      ⟨some 9, .binOp .lss 3 (.tmp 8) (.tmp 7) 3, none⟩])
    (.seq
    (.cond (.tmp 9)
      .skip
      (.exit 0))
    (.seq
    (.block 1
    (.seq
    (.reg [
      ⟨some 10, .move (.tmp 8), none⟩,
      ⟨some 5, .assign (.tmp 10), none⟩])
    (.seq
    (.reg [
      ⟨some 11, .move (.tmp 1), none⟩,
      ⟨some 12, .move (.tmp 0), none⟩,
      ⟨some 13, .move (.tmp 5), none⟩,
      ⟨some 14, .indexAddr 25 (.tmp 12) (.tmp 13), none⟩,
      ⟨some 15, .load 3 (.tmp 14), none⟩,
      ⟨some 16, .call { callee := .value (.tmp 11), args := #[.tmp 15], argTypes := #[3] }, none⟩])
    (.cond (.tmp 16)
      (.seq
      (.reg [
        ⟨some 17, .move (.tmp 5), none⟩,
        ⟨some 4, .assign (.tmp 17), none⟩])
      .ret)
      .skip))))
    (.reg [
      ⟨some 18, .binOp .add 3 (.tmp 8) (.const (.int .i64 1)) 3, none⟩,
      ⟨some 8, .move (.tmp 18), none⟩])))))))
  (.seq
  (.reg [
    ⟨some 4, .assign (.const (.int .i64 (-1))), none⟩])
  .ret)))
theorem hd78 : Try.f78.body.map dec = some c78 := by kernel_rfl
theorem e78 {R : AV → AH → Prop} {h : AH} (x0 x1 : AV) (H : h.wf → AI Try.prog c78 (RetQ Try.prog [.tmp 4] R) [x0, x1, un, un, un, un, un, un, un, un, un, un, un, un, un, un, un, un, un] h) : AC Try.prog 78 [x0, x1] h R :=
  AC_of' (rs := [.tmp 4]) Try.func78 (by kernel_rfl) hd78 Try.ntmps78 rfl H

/-- slices.ContainsFunc[[]int,int] -/
def c46 : IC :=
  (.seq
  (.reg [
    ⟨some 4, .assign (.const (.bool false)), none⟩])
  (.seq
  (.reg [
    ⟨some 5, .move (.tmp 0), none⟩,
    ⟨some 6, .move (.tmp 1), none⟩,
    ⟨some 7, .call { callee := .value (.func 78), args := #[.tmp 5, .tmp 6], argTypes := #[25, 41] }, none⟩,
    ⟨some 8, .binOp .geq 3 (.tmp 7) (.const (.int .i64 0)) 3, none⟩,
    ⟨some 4, .assign (.tmp 8), none⟩])
  .ret))
theorem hd46 : Try.f46.body.map dec = some c46 := by kernel_rfl
theorem e46 {R : AV → AH → Prop} {h : AH} (x0 x1 : AV) (H : h.wf → AI Try.prog c46 (RetQ Try.prog [.tmp 4] R) [x0, x1, un, un, un, un, un, un, un] h) : AC Try.prog 46 [x0, x1] h R :=
  AC_of' (rs := [.tmp 4]) Try.func46 (by kernel_rfl) hd46 Try.ntmps46 rfl H

/-- impl.in -/
def c49 : IC :=
  (.seq
  (.reg [
    ⟨some 6, .assign (.const (.bool false)), none⟩])
  (.seq
  (.reg [
    ⟨some 7, .move (.tmp 0), none⟩,
    ⟨some 8, .move (.tmp 1), none⟩,
    ⟨some 9, .binOp .geq 3 (.tmp 7) (.tmp 8) 3, none⟩,
    ⟨some 10, .move (.tmp 9), none⟩,
    ⟨some 11, .move (.tmp 0), some (10, true)⟩,
    ⟨some 12, .move (.tmp 2), some (10, true)⟩,
    ⟨some 13, .binOp .leq 3 (.tmp 11) (.tmp 12) 3, some (10, true)⟩,
    ⟨some 14, .pick (.tmp 10) (.tmp 13) (.const (.bool false)), none⟩,
    ⟨some 6, .assign (.tmp 14), none⟩])
  .ret))
theorem hd49 : Try.f49.body.map dec = some c49 := by kernel_rfl
theorem e49 {R : AV → AH → Prop} {h : AH} (x0 x1 x2 : AV) (H : h.wf → AI Try.prog c49 (RetQ Try.prog [.tmp 6] R) [x0, x1, x2, un, un, un, un, un, un, un, un, un, un, un, un] h) : AC Try.prog 49 [x0, x1, x2] h R :=
  AC_of' (rs := [.tmp 6]) Try.func49 (by kernel_rfl) hd49 Try.ntmps49 rfl H

/-- impl.modulusOk -/
def c76 : IC :=
  (.seq
  (.reg [
    ⟨some 2, .assign (.const (.bool false)), none⟩])
  (.seq
  (.reg [
    ⟨some 3, .move (.tmp 0), none⟩,
    ⟨some 4, .call { callee := .value (.func 49), args := #[.tmp 3, .const (.int .i64 2), .const (.int .i64 10000)], argTypes := #[3, 3, 3] }, none⟩,
    ⟨some 2, .assign (.tmp 4), none⟩])
  .ret))
theorem hd76 : Try.f76.body.map dec = some c76 := by kernel_rfl
theorem e76 {R : AV → AH → Prop} {h : AH} (x0 : AV) (H : h.wf → AI Try.prog c76 (RetQ Try.prog [.tmp 2] R) [x0, un, un, un, un] h) : AC Try.prog 76 [x0] h R :=
  AC_of' (rs := [.tmp 2]) Try.func76 (by kernel_rfl) hd76 Try.ntmps76 rfl H

/-- impl.residuesOk$1 -/
def c77 : IC :=
  (.seq
  (.reg [
    ⟨some 3, .assign (.const (.bool false)), none⟩])
  (.seq
  (.reg [
    ⟨some 4, .move (.tmp 0), none⟩,
    ⟨some 5, .load 3 (.tmp 1), none⟩,
    ⟨some 6, .binOp .sub 3 (.tmp 5) (.const (.int .i64 1)) 3, none⟩,
    ⟨some 7, .call { callee := .value (.func 49), args := #[.tmp 4, .const (.int .i64 0), .tmp 6], argTypes := #[3, 3, 3] }, none⟩,
    ⟨some 8, .unOp .not 4 (.tmp 7), none⟩,
    ⟨some 3, .assign (.tmp 8), none⟩])
  .ret))
theorem hd77 : Try.f77.body.map dec = some c77 := by kernel_rfl
theorem e77 {R : AV → AH → Prop} {h : AH} (x0 x1 : AV) (H : h.wf → AI Try.prog c77 (RetQ Try.prog [.tmp 3] R) [x0, x1, un, un, un, un, un, un, un] h) : AC Try.prog 77 [x0, x1] h R :=
  AC_of' (rs := [.tmp 3]) Try.func77 (by kernel_rfl) hd77 Try.ntmps77 rfl H

/-- impl.residuesOk -/
def c43 : IC :=
  (.seq
  (.reg [
    ⟨some 3, .box 3 (.tmp 1), none⟩,
    ⟨some 4, .assign (.const (.bool false)), none⟩])
  (.seq
  (.reg [
    ⟨some 5, .load 3 (.tmp 3), none⟩,
    ⟨some 6, .call { callee := .value (.func 76), args := #[.tmp 5], argTypes := #[3] }, none⟩,
    ⟨some 7, .move (.tmp 6), none⟩,
    ⟨some 8, .move (.tmp 0), some (7, true)⟩,
    ⟨some 9, .makeFunc (.func 77) #[] #[.tmp 3], some (7, true)⟩,
    ⟨some 10, .call { callee := .value (.func 46), args := #[.tmp 8, .tmp 9], argTypes := #[25, 41] }, some (7, true)⟩,
    ⟨some 11, .unOp .not 4 (.tmp 10), some (7, true)⟩,
    ⟨some 12, .pick (.tmp 7) (.tmp 11) (.const (.bool false)), none⟩,
    ⟨some 4, .assign (.tmp 12), none⟩])
  .ret))
theorem hd43 : Try.f43.body.map dec = some c43 := by kernel_rfl
theorem e43 {R : AV → AH → Prop} {h : AH} (x0 x1 : AV) (H : h.wf → AI Try.prog c43 (RetQ Try.prog [.tmp 4] R) [x0, x1, un, un, un, un, un, un, un, un, un, un, un] h) : AC Try.prog 43 [x0, x1] h R :=
  AC_of' (rs := [.tmp 4]) Try.func43 (by kernel_rfl) hd43 Try.ntmps43 rfl H

/-- (impl.Matrix).residues -/
def c55 : IC :=
  (.seq
  (.reg [
    ⟨some 1, .box 32 (.tmp 0), none⟩,
    ⟨some 2, .assign (.const (.slice none 0 0)), none⟩])
  (.seq
  (.reg [
    ⟨some 3, .fieldAddr 32 (.tmp 1) 0, none⟩,
    ⟨some 4, .load 3 (.tmp 3), none⟩,
    ⟨some 5, .fieldAddr 32 (.tmp 1) 1, none⟩,
    ⟨some 6, .load 3 (.tmp 5), none⟩,
    ⟨some 7, .fieldAddr 32 (.tmp 1) 2, none⟩,
    ⟨some 8, .load 3 (.tmp 7), none⟩,
    ⟨some 9, .fieldAddr 32 (.tmp 1) 3, none⟩,
    ⟨some 10, .load 3 (.tmp 9), none⟩,
    ⟨some 11, .buildSlice 25 4 #[(0, .tmp 4), (1, .tmp 6), (2, .tmp 8), (3, .tmp 10)], none⟩,
    ⟨some 2, .assign (.tmp 11), none⟩])
  .ret))
theorem hd55 : Try.f55.body.map dec = some c55 := by kernel_rfl
theorem e55 {R : AV → AH → Prop} {h : AH} (x0 : AV) (H : h.wf → AI Try.prog c55 (RetQ Try.prog [.tmp 2] R) [x0, un, un, un, un, un, un, un, un, un, un, un] h) : AC Try.prog 55 [x0] h R :=
  AC_of' (rs := [.tmp 2]) Try.func55 (by kernel_rfl) hd55 Try.ntmps55 rfl H

noncomputable def rg79_0 : Array Oper := rawAt Try.f79 0
-- NO ORDER
/-- impl.matrixTimes$1 -/
noncomputable def c79 : IC :=
  (.seq
  (.reg [
    ⟨some 3, .box 32 (.tmp 0), none⟩,
    ⟨some 4, .box 32 (.tmp 1), none⟩,
    ⟨some 5, .alloc 32, none⟩])
  (.seq
  (.raw (.region 1 rg79_0 true))
  .ret))
theorem hd79 : Try.f79.body.map dec = some c79 := by kernel_rfl
theorem e79 {R : AV → AH → Prop} {h : AH} (x0 x1 x2 : AV) (H : h.wf → AI Try.prog c79 (RetQ Try.prog [.cell 5 32] R) [x0, x1, x2, un, un, un, un, un, un, un, un, un, un, un, un, un, un, un, un, un, un, un, un, un, un, un, un, un, un, un, un, un, un, un, un, un, un, un, un, un, un, un, un, un, un, un, un, un, un, un, un, un, un, un, un, un, un, un, un] h) : AC Try.prog 79 [x0, x1, x2] h R :=
  AC_of' (rs := [.cell 5 32]) Try.func79 (by kernel_rfl) hd79 Try.ntmps79 rfl H
theorem dz79_0 {h0 : AH} {L : List It} {Q : Exit → List AV → List It → Prop} {a : List AV} {id : Nat} (H : LX Try.prog ⟨[53], []⟩ h0 L L (.c (⟨some 6, .fieldAddr 32 (.tmp 3) 0, none⟩, .p) <| .c (⟨some 7, .load 3 (.tmp 6), none⟩, .l) <| .c (⟨some 8, .fieldAddr 32 (.tmp 4) 0, none⟩, .p) <| .c (⟨some 9, .load 3 (.tmp 8), none⟩, .l) <| .c (⟨some 10, .binOp .mul 3 (.tmp 7) (.tmp 9) 3, none⟩, .p) <| .c (⟨some 11, .fieldAddr 32 (.tmp 3) 1, none⟩, .p) <| .c (⟨some 12, .load 3 (.tmp 11), none⟩, .l) <| .c (⟨some 13, .fieldAddr 32 (.tmp 4) 2, none⟩, .p) <| .c (⟨some 14, .load 3 (.tmp 13), none⟩, .l) <| .c (⟨some 15, .binOp .mul 3 (.tmp 12) (.tmp 14) 3, none⟩, .p) <| .c (⟨some 16, .binOp .add 3 (.tmp 10) (.tmp 15) 3, none⟩, .p) <| .c (⟨some 17, .load 3 (.tmp 2), none⟩, .l) <| .c (⟨some 18, .binOp .rem 3 (.tmp 16) (.tmp 17) 3, none⟩, .p) <| .c (⟨some 19, .fieldAddr 32 (.tmp 3) 0, none⟩, .p) <| .c (⟨some 20, .load 3 (.tmp 19), none⟩, .l) <| .c (⟨some 21, .fieldAddr 32 (.tmp 4) 1, none⟩, .p) <| .c (⟨some 22, .load 3 (.tmp 21), none⟩, .l) <| .c (⟨some 23, .binOp .mul 3 (.tmp 20) (.tmp 22) 3, none⟩, .p) <| .c (⟨some 24, .fieldAddr 32 (.tmp 3) 1, none⟩, .p) <| .c (⟨some 25, .load 3 (.tmp 24), none⟩, .l) <| .c (⟨some 26, .fieldAddr 32 (.tmp 4) 3, none⟩, .p) <| .c (⟨some 27, .load 3 (.tmp 26), none⟩, .l) <| .c (⟨some 28, .binOp .mul 3 (.tmp 25) (.tmp 27) 3, none⟩, .p) <| .c (⟨some 29, .binOp .add 3 (.tmp 23) (.tmp 28) 3, none⟩, .p) <| .c (⟨some 30, .load 3 (.tmp 2), none⟩, .l) <| .c (⟨some 31, .binOp .rem 3 (.tmp 29) (.tmp 30) 3, none⟩, .p) <| .c (⟨some 32, .fieldAddr 32 (.tmp 3) 2, none⟩, .p) <| .c (⟨some 33, .load 3 (.tmp 32), none⟩, .l) <| .c (⟨some 34, .fieldAddr 32 (.tmp 4) 0, none⟩, .p) <| .c (⟨some 35, .load 3 (.tmp 34), none⟩, .l) <| .c (⟨some 36, .binOp .mul 3 (.tmp 33) (.tmp 35) 3, none⟩, .p) <| .c (⟨some 37, .fieldAddr 32 (.tmp 3) 3, none⟩, .p) <| .c (⟨some 38, .load 3 (.tmp 37), none⟩, .l) <| .c (⟨some 39, .fieldAddr 32 (.tmp 4) 2, none⟩, .p) <| .c (⟨some 40, .load 3 (.tmp 39), none⟩, .l) <| .c (⟨some 41, .binOp .mul 3 (.tmp 38) (.tmp 40) 3, none⟩, .p) <| .c (⟨some 42, .binOp .add 3 (.tmp 36) (.tmp 41) 3, none⟩, .p) <| .c (⟨some 43, .load 3 (.tmp 2), none⟩, .l) <| .c (⟨some 44, .binOp .rem 3 (.tmp 42) (.tmp 43) 3, none⟩, .p) <| .c (⟨some 45, .fieldAddr 32 (.tmp 3) 2, none⟩, .p) <| .c (⟨some 46, .load 3 (.tmp 45), none⟩, .l) <| .c (⟨some 47, .fieldAddr 32 (.tmp 4) 1, none⟩, .p) <| .c (⟨some 48, .load 3 (.tmp 47), none⟩, .l) <| .c (⟨some 49, .binOp .mul 3 (.tmp 46) (.tmp 48) 3, none⟩, .p) <| .c (⟨some 50, .fieldAddr 32 (.tmp 3) 3, none⟩, .p) <| .c (⟨some 51, .load 3 (.tmp 50), none⟩, .l) <| .c (⟨some 52, .fieldAddr 32 (.tmp 4) 3, none⟩, .p) <| .c (⟨some 53, .load 3 (.tmp 52), none⟩, .l) <| .c (⟨some 54, .binOp .mul 3 (.tmp 51) (.tmp 53) 3, none⟩, .p) <| .c (⟨some 55, .binOp .add 3 (.tmp 49) (.tmp 54) 3, none⟩, .p) <| .c (⟨some 56, .load 3 (.tmp 2), none⟩, .l) <| .c (⟨some 57, .binOp .rem 3 (.tmp 55) (.tmp 56) 3, none⟩, .p) <| .c (⟨some 58, .build 32 #[(0, .tmp 18), (1, .tmp 31), (2, .tmp 44), (3, .tmp 57)], none⟩, .p) <| .c (⟨none, .store 32 (.tmp 5) (.tmp 58), none⟩, .f) <| .n) Q a) : LI Try.prog h0 L (.raw (.region id rg79_0 true)) Q a :=
  LI_draw (.c (0, .p) <| .c (1, .l) <| .c (2, .p) <| .c (3, .l) <| .c (4, .p) <| .c (5, .p) <| .c (6, .l) <| .c (7, .p) <| .c (8, .l) <| .c (9, .p) <| .c (10, .p) <| .c (11, .l) <| .c (12, .p) <| .c (13, .p) <| .c (14, .l) <| .c (15, .p) <| .c (16, .l) <| .c (17, .p) <| .c (18, .p) <| .c (19, .l) <| .c (20, .p) <| .c (21, .l) <| .c (22, .p) <| .c (23, .p) <| .c (24, .l) <| .c (25, .p) <| .c (26, .p) <| .c (27, .l) <| .c (28, .p) <| .c (29, .l) <| .c (30, .p) <| .c (31, .p) <| .c (32, .l) <| .c (33, .p) <| .c (34, .l) <| .c (35, .p) <| .c (36, .p) <| .c (37, .l) <| .c (38, .p) <| .c (39, .p) <| .c (40, .l) <| .c (41, .p) <| .c (42, .l) <| .c (43, .p) <| .c (44, .p) <| .c (45, .l) <| .c (46, .p) <| .c (47, .l) <| .c (48, .p) <| .c (49, .p) <| .c (50, .l) <| .c (51, .p) <| .c (52, .p) <| .c (53, .f) <| .n) [53] (by kernel_rfl) (by kernel_rfl) (by kernel_rfl) H

/-- impl.matrixTimes -/
def c57 : IC :=
  (.seq
  (.reg [
    ⟨some 1, .box 3 (.tmp 0), none⟩,
    ⟨some 2, .assign (.const .nilFunc), none⟩])
  (.seq
  (.reg [
    ⟨some 3, .makeFunc (.func 79) #[] #[.tmp 1], none⟩,
    ⟨some 2, .assign (.tmp 3), none⟩])
  .ret))
theorem hd57 : Try.f57.body.map dec = some c57 := by kernel_rfl
theorem e57 {R : AV → AH → Prop} {h : AH} (x0 : AV) (H : h.wf → AI Try.prog c57 (RetQ Try.prog [.tmp 2] R) [x0, un, un, un] h) : AC Try.prog 57 [x0] h R :=
  AC_of' (rs := [.tmp 2]) Try.func57 (by kernel_rfl) hd57 Try.ntmps57 rfl H

/-- slices.Grow[[]int,int] -/
def c80 : IC :=
  (.seq
  (.reg [
    ⟨some 4, .assign (.const (.slice none 0 0)), none⟩])
  (.seq
  (.seq
  (.reg [
    ⟨some 5, .move (.tmp 1), none⟩,
    ⟨some 6, .binOp .lss 3 (.tmp 5) (.const (.int .i64 0)) 3, none⟩])
  (.cond (.tmp 6)
    (.reg [
      ⟨some 7, .makeInterface 9 (.const (.string { data := #[99, 97, 110, 110, 111, 116, 32, 98, 101, 32, 110, 101, 103, 97, 116, 105, 118, 101] })), none⟩,
      ⟨none, .panic (.tmp 7), none⟩])
    .skip))
  (.seq
  (.seq
  (.reg [
    ⟨some 8, .move (.tmp 1), none⟩,
    ⟨some 9, .move (.tmp 0), none⟩,
    ⟨some 10, .call { callee := .builtin .cap, args := #[.tmp 9], argTypes := #[25] }, none⟩,
    ⟨some 11, .move (.tmp 0), none⟩,
    ⟨some 12, .call { callee := .builtin .len, args := #[.tmp 11], argTypes := #[25] }, none⟩,
    ⟨some 13, .binOp .sub 3 (.tmp 10) (.tmp 12) 3, none⟩,
    ⟨some 14, .binOp .sub 3 (.tmp 8) (.tmp 13) 3, none⟩,
    ⟨some 1, .assign (.tmp 14), none⟩])
  (.seq
  (.reg [
    ⟨some 15, .move (.tmp 1), none⟩,
    ⟨some 16, .binOp .gtr 3 (.tmp 15) (.const (.int .i64 0)) 3, none⟩])
  (.cond (.tmp 16)
    (.reg [
      ⟨some 17, .move (.tmp 0), none⟩,
      ⟨some 18, .move (.tmp 0), none⟩,
      ⟨some 19, .call { callee := .builtin .cap, args := #[.tmp 18], argTypes := #[25] }, none⟩,
      ⟨some 20, .slice 25 (.tmp 17) none (some (.tmp 19)) none, none⟩,
      ⟨some 21, .move (.tmp 1), none⟩,
      ⟨some 22, .call { callee := .builtin .append, args := #[.tmp 20, .tmp 21], argTypes := #[25, 3] }, none⟩,
      ⟨some 23, .move (.tmp 0), none⟩,
      ⟨some 24, .call { callee := .builtin .len, args := #[.tmp 23], argTypes := #[25] }, none⟩,
      ⟨some 25, .slice 25 (.tmp 22) none (some (.tmp 24)) none, none⟩,
      ⟨some 0, .assign (.tmp 25), none⟩])
    .skip)))
  (.seq
  (.reg [
    ⟨some 26, .move (.tmp 0), none⟩,
    ⟨some 4, .assign (.tmp 26), none⟩])
  .ret))))
theorem hd80 : Try.f80.body.map dec = some c80 := by kernel_rfl
theorem e80 {R : AV → AH → Prop} {h : AH} (x0 x1 : AV) (H : h.wf → AI Try.prog c80 (RetQ Try.prog [.tmp 4] R) [x0, x1, un, un, un, un, un, un, un, un, un, un, un, un, un, un, un, un, un, un, un, un, un, un, un, un, un] h) : AC Try.prog 80 [x0, x1] h R :=
  AC_of' (rs := [.tmp 4]) Try.func80 (by kernel_rfl) hd80 Try.ntmps80 rfl H

/-- slices.Concat[[]int,int] -/
def c58 : IC :=
  (.seq
  (.reg [
    ⟨some 2, .assign (.const (.slice none 0 0)), none⟩])
  (.seq
  (.reg [
    ⟨some 3, .assign (.const (.int .i64 0)), none⟩])
  (.seq
  (.seq
  (.reg [
    ⟨some 9, .move (.tmp 0), none⟩,
    ⟨some 10, .call { callee := .builtin .len, args := #[.tmp 9], argTypes := #[42] }, none⟩,
    ⟨some 11, .move (.const (.int .i64 0)), none⟩])
  (.block 0
  (.loop
    (.seq
    (.reg [
      ⟨some 12, .binOp .lss 3 (.tmp 11) (.tmp 10) 3, none⟩])
    (.seq
    (.cond (.tmp 12)
      .skip
      (.exit 0))
    (.seq
    (.block 1
    (.seq
    (.reg [
      ⟨some 13, .indexAddr 42 (.tmp 9) (.tmp 11), none⟩,
      ⟨some 14, .load 25 (.tmp 13), none⟩,
      ⟨some 5, .assign (.tmp 14), none⟩])
    (.seq
    (.reg [
      ⟨some 15, .move (.tmp 3), none⟩,
      ⟨some 16, .move (.tmp 5), none⟩,
      ⟨some 17, .call { callee := .builtin .len, args := #[.tmp 16], argTypes := #[25] }, none⟩,
      ⟨some 18, .binOp .add 3 (.tmp 15) (.tmp 17) 3, none⟩,
      ⟨some 3, .assign (.tmp 18), none⟩])
    (.seq
    (.reg [
      ⟨some 19, .move (.tmp 3), none⟩,
      ⟨some 20, .binOp .lss 3 (.tmp 19) (.const (.int .i64 0)) 3, none⟩])
    (.cond (.tmp 20)
      (.reg [
        ⟨some 21, .makeInterface 9 (.const (.string { data := #[108, 101, 110, 32, 111, 117, 116, 32, 111, 102, 32, 114, 97, 110, 103, 101] })), none⟩,
        ⟨none, .panic (.tmp 21), none⟩])
      .skip)))))
    (.reg [
      ⟨some 22, .binOp .add 3 (.tmp 11) (.const (.int .i64 1)) 3, none⟩,
      ⟨some 11, .move (.tmp 22), none⟩])))))))
  (.seq
  (.reg [
    ⟨some 23, .move (.tmp 3), none⟩,
    ⟨some 24, .call { callee := .value (.func 80), args := #[.const (.slice none 0 0), .tmp 23], argTypes := #[25, 3] }, none⟩,
    ⟨some 6, .assign (.tmp 24), none⟩])
  (.seq
  (.seq
  (.reg [
    ⟨some 25, .move (.tmp 0), none⟩,
    ⟨some 26, .call { callee := .builtin .len, args := #[.tmp 25], argTypes := #[42] }, none⟩,
    ⟨some 27, .move (.const (.int .i64 0)), none⟩])
  (.block 2
  (.loop
    (.seq
    (.reg [
      ⟨some 28, .binOp .lss 3 (.tmp 27) (.tmp 26) 3, none⟩])
    (.seq
    (.cond (.tmp 28)
      .skip
      (.exit 2))
    (.seq
    (.block 3
    (.seq
    (.reg [
      ⟨some 29, .indexAddr 42 (.tmp 25) (.tmp 27), none⟩,
      ⟨some 30, .load 25 (.tmp 29), none⟩,
      ⟨some 8, .assign (.tmp 30), none⟩])
    (.reg [
      ⟨some 31, .move (.tmp 6), none⟩,
      ⟨some 32, .move (.tmp 8), none⟩,
      ⟨some 33, .call { callee := .builtin .append, args := #[.tmp 31, .tmp 32], argTypes := #[25, 25] }, none⟩,
      ⟨some 6, .assign (.tmp 33), none⟩])))
    (.reg [
      ⟨some 34, .binOp .add 3 (.tmp 27) (.const (.int .i64 1)) 3, none⟩,
      ⟨some 27, .move (.tmp 34), none⟩])))))))
  (.seq
  (.reg [
    ⟨some 35, .move (.tmp 6), none⟩,
    ⟨some 2, .assign (.tmp 35), none⟩])
  .ret))))))
theorem hd58 : Try.f58.body.map dec = some c58 := by kernel_rfl
theorem e58 {R : AV → AH → Prop} {h : AH} (x0 : AV) (H : h.wf → AI Try.prog c58 (RetQ Try.prog [.tmp 2] R) [x0, un, un, un, un, un, un, un, un, un, un, un, un, un, un, un, un, un, un, un, un, un, un, un, un, un, un, un, un, un, un, un, un, un, un, un] h) : AC Try.prog 58 [x0] h R :=
  AC_of' (rs := [.tmp 2]) Try.func58 (by kernel_rfl) hd58 Try.ntmps58 rfl H

noncomputable def rg23_0 : Array Oper := rawAt Try.f23 0
noncomputable def rg23_1 : Array Oper := rawAt Try.f23 1
/-- impl.MatrixProduct -/
noncomputable def c23 : IC :=
  (.seq
  (.reg [
    ⟨some 3, .box 32 (.tmp 0), none⟩,
    ⟨some 4, .box 32 (.tmp 1), none⟩,
    ⟨some 6, .alloc 32, none⟩,
    ⟨some 7, .assign (.const (.bool false)), none⟩])
  (.seq
  (.seq
  (.raw (.region 1 rg23_0 true))
  (.cond (.tmp 16)
    (.seq
    (.reg [
      ⟨some 17, .build 32 #[], none⟩,
      ⟨none, .store 32 (.tmp 6) (.tmp 17), none⟩,
      ⟨some 7, .assign (.const (.bool false)), none⟩])
    .ret)
    .skip))
  (.seq
  (.raw (.region 3 rg23_1 true))
  .ret)))
theorem hd23 : Try.f23.body.map dec = some c23 := by kernel_rfl
theorem e23 {R : AV → AH → Prop} {h : AH} (x0 x1 x2 : AV) (H : h.wf → AI Try.prog c23 (RetQ Try.prog [.cell 6 32, .tmp 7] R) [x0, x1, x2, un, un, un, un, un, un, un, un, un, un, un, un, un, un, un, un, un, un, un, un] h) : AC Try.prog 23 [x0, x1, x2] h R :=
  AC_of' (rs := [.cell 6 32, .tmp 7]) Try.func23 (by kernel_rfl) hd23 Try.ntmps23 rfl H
theorem dz23_0 {h0 : AH} {L : List It} {Q : Exit → List AV → List It → Prop} {a : List AV} {id : Nat} (H : LX Try.prog ⟨[], []⟩ h0 L L (.c (⟨some 8, .load 32 (.tmp 3), none⟩, .l) <| .c (⟨some 10, .load 32 (.tmp 4), none⟩, .l) <| .c (⟨some 14, .move (.tmp 2), none⟩, .p) <| .c (⟨some 9, .call { callee := .value (.func 55), args := #[.tmp 8], argTypes := #[32] }, none⟩, .e) <| .c (⟨some 11, .call { callee := .value (.func 55), args := #[.tmp 10], argTypes := #[32] }, none⟩, .e) <| .c (⟨some 12, .buildSlice 42 2 #[(0, .tmp 9), (1, .tmp 11)], none⟩, .e) <| .c (⟨some 13, .call { callee := .value (.func 58), args := #[.tmp 12], argTypes := #[42] }, none⟩, .e) <| .c (⟨some 15, .call { callee := .value (.func 43), args := #[.tmp 13, .tmp 14], argTypes := #[25, 3] }, none⟩, .e) <| .c (⟨some 16, .unOp .not 4 (.tmp 15), none⟩, .p) <| .n) Q a) : LI Try.prog h0 L (.raw (.region id rg23_0 true)) Q a :=
  LI_draw (.c (0, .l) <| .c (2, .l) <| .c (6, .p) <| .c (1, .e) <| .c (3, .e) <| .c (4, .e) <| .c (5, .e) <| .c (7, .e) <| .c (8, .p) <| .n) [] (by kernel_rfl) (by kernel_rfl) (by kernel_rfl) H
theorem db23_0 {h0 : AH} {L : List It} {Q : Exit → List AV → List It → Prop} {a : List AV} {id : Nat} (K : List (Nat × List AV)) (hK : ∀ x ∈ K, It.pt x.1 x.2 ∈ L) (H : LX Try.prog ⟨[1, 3, 4, 5, 7], K⟩ h0 L L (.c (⟨some 8, .load 32 (.tmp 3), none⟩, .l) <| .c (⟨some 14, .move (.tmp 2), none⟩, .p) <| .t (.c (⟨some 9, .call { callee := .value (.func 55), args := #[.tmp 8], argTypes := #[32] }, none⟩, .f) <| .c (⟨some 10, .load 32 (.tmp 4), none⟩, .e) <| .c (⟨some 11, .call { callee := .value (.func 55), args := #[.tmp 10], argTypes := #[32] }, none⟩, .f) <| .c (⟨some 12, .buildSlice 42 2 #[(0, .tmp 9), (1, .tmp 11)], none⟩, .f) <| .c (⟨some 13, .call { callee := .value (.func 58), args := #[.tmp 12], argTypes := #[42] }, none⟩, .f) <| .c (⟨some 15, .call { callee := .value (.func 43), args := #[.tmp 13, .tmp 14], argTypes := #[25, 3] }, none⟩, .f) <| .c (⟨some 16, .unOp .not 4 (.tmp 15), none⟩, .p) <| .n) (.c (⟨some 10, .load 32 (.tmp 4), none⟩, .e) <| .c (⟨some 9, .call { callee := .value (.func 55), args := #[.tmp 8], argTypes := #[32] }, none⟩, .f) <| .c (⟨some 11, .call { callee := .value (.func 55), args := #[.tmp 10], argTypes := #[32] }, none⟩, .f) <| .c (⟨some 12, .buildSlice 42 2 #[(0, .tmp 9), (1, .tmp 11)], none⟩, .f) <| .c (⟨some 13, .call { callee := .value (.func 58), args := #[.tmp 12], argTypes := #[42] }, none⟩, .f) <| .c (⟨some 15, .call { callee := .value (.func 43), args := #[.tmp 13, .tmp 14], argTypes := #[25, 3] }, none⟩, .f) <| .c (⟨some 16, .unOp .not 4 (.tmp 15), none⟩, .p) <| .n)) Q a) : LI Try.prog h0 L (.raw (.region id rg23_0 true)) Q a :=
  LI_drawK (.c (0, .l) <| .c (6, .p) <| .t (.c (1, .f) <| .c (2, .e) <| .c (3, .f) <| .c (4, .f) <| .c (5, .f) <| .c (7, .f) <| .c (8, .p) <| .n) (.c (2, .e) <| .c (1, .f) <| .c (3, .f) <| .c (4, .f) <| .c (5, .f) <| .c (7, .f) <| .c (8, .p) <| .n)) [1, 3, 4, 5, 7] K hK (by kernel_rfl) (by kernel_rfl) (by kernel_rfl) H
theorem dr23_0 (m : Nat) {Q : Exit → List AV → AH → Prop} {a : List AV} {h : AH} {id : Nat} (H : AX Try.prog m h [(⟨some 8, .load 32 (.tmp 3), none⟩, true),
  (⟨some 10, .load 32 (.tmp 4), none⟩, true),
  (⟨some 14, .move (.tmp 2), none⟩, true),
  (⟨some 9, .call { callee := .value (.func 55), args := #[.tmp 8], argTypes := #[32] }, none⟩, false),
  (⟨some 11, .call { callee := .value (.func 55), args := #[.tmp 10], argTypes := #[32] }, none⟩, false),
  (⟨some 12, .buildSlice 42 2 #[(0, .tmp 9), (1, .tmp 11)], none⟩, false),
  (⟨some 13, .call { callee := .value (.func 58), args := #[.tmp 12], argTypes := #[42] }, none⟩, false),
  (⟨some 15, .call { callee := .value (.func 43), args := #[.tmp 13, .tmp 14], argTypes := #[25, 3] }, none⟩, false),
  (⟨some 16, .unOp .not 4 (.tmp 15), none⟩, true)] (fun a' h' => Q .normal a' h') a h) : AI Try.prog (.raw (.region id rg23_0 true)) Q a h :=
  AI_draw [(0, true), (2, true), (6, true), (1, false), (3, false), (4, false), (5, false), (7, false), (8, true)] m (by kernel_rfl) (by kernel_rfl) (by kernel_rfl) H
theorem dz23_1 {h0 : AH} {L : List It} {Q : Exit → List AV → List It → Prop} {a : List AV} {id : Nat} (H : LX Try.prog ⟨[5], []⟩ h0 L L (.c (⟨some 18, .move (.tmp 2), none⟩, .p) <| .c (⟨some 20, .load 32 (.tmp 3), none⟩, .l) <| .c (⟨some 21, .load 32 (.tmp 4), none⟩, .l) <| .c (⟨some 19, .call { callee := .value (.func 57), args := #[.tmp 18], argTypes := #[3] }, none⟩, .e) <| .c (⟨some 22, .call { callee := .value (.tmp 19), args := #[.tmp 20, .tmp 21], argTypes := #[32, 32] }, none⟩, .e) <| .c (⟨none, .store 32 (.tmp 6) (.tmp 22), none⟩, .f) <| .c (⟨some 7, .assign (.const (.bool true)), none⟩, .p) <| .n) Q a) : LI Try.prog h0 L (.raw (.region id rg23_1 true)) Q a :=
  LI_draw (.c (0, .p) <| .c (2, .l) <| .c (3, .l) <| .c (1, .e) <| .c (4, .e) <| .c (5, .f) <| .c (6, .p) <| .n) [5] (by kernel_rfl) (by kernel_rfl) (by kernel_rfl) H
theorem db23_1 {h0 : AH} {L : List It} {Q : Exit → List AV → List It → Prop} {a : List AV} {id : Nat} (K : List (Nat × List AV)) (hK : ∀ x ∈ K, It.pt x.1 x.2 ∈ L) (H : LX Try.prog ⟨[1, 4, 5], K⟩ h0 L L (.c (⟨some 18, .move (.tmp 2), none⟩, .p) <| .t (.c (⟨some 19, .call { callee := .value (.func 57), args := #[.tmp 18], argTypes := #[3] }, none⟩, .f) <| .t (.c (⟨some 20, .load 32 (.tmp 3), none⟩, .e) <| .c (⟨some 21, .load 32 (.tmp 4), none⟩, .e) <| .c (⟨some 22, .call { callee := .value (.tmp 19), args := #[.tmp 20, .tmp 21], argTypes := #[32, 32] }, none⟩, .f) <| .c (⟨none, .store 32 (.tmp 6) (.tmp 22), none⟩, .f) <| .c (⟨some 7, .assign (.const (.bool true)), none⟩, .p) <| .n) (.c (⟨some 21, .load 32 (.tmp 4), none⟩, .e) <| .c (⟨some 20, .load 32 (.tmp 3), none⟩, .e) <| .c (⟨some 22, .call { callee := .value (.tmp 19), args := #[.tmp 20, .tmp 21], argTypes := #[32, 32] }, none⟩, .f) <| .c (⟨none, .store 32 (.tmp 6) (.tmp 22), none⟩, .f) <| .c (⟨some 7, .assign (.const (.bool true)), none⟩, .p) <| .n)) (.t (.c (⟨some 20, .load 32 (.tmp 3), none⟩, .e) <| .t (.c (⟨some 19, .call { callee := .value (.func 57), args := #[.tmp 18], argTypes := #[3] }, none⟩, .f) <| .c (⟨some 21, .load 32 (.tmp 4), none⟩, .e) <| .c (⟨some 22, .call { callee := .value (.tmp 19), args := #[.tmp 20, .tmp 21], argTypes := #[32, 32] }, none⟩, .f) <| .c (⟨none, .store 32 (.tmp 6) (.tmp 22), none⟩, .f) <| .c (⟨some 7, .assign (.const (.bool true)), none⟩, .p) <| .n) (.c (⟨some 21, .load 32 (.tmp 4), none⟩, .e) <| .c (⟨some 19, .call { callee := .value (.func 57), args := #[.tmp 18], argTypes := #[3] }, none⟩, .f) <| .c (⟨some 22, .call { callee := .value (.tmp 19), args := #[.tmp 20, .tmp 21], argTypes := #[32, 32] }, none⟩, .f) <| .c (⟨none, .store 32 (.tmp 6) (.tmp 22), none⟩, .f) <| .c (⟨some 7, .assign (.const (.bool true)), none⟩, .p) <| .n)) (.c (⟨some 21, .load 32 (.tmp 4), none⟩, .e) <| .t (.c (⟨some 19, .call { callee := .value (.func 57), args := #[.tmp 18], argTypes := #[3] }, none⟩, .f) <| .c (⟨some 20, .load 32 (.tmp 3), none⟩, .e) <| .c (⟨some 22, .call { callee := .value (.tmp 19), args := #[.tmp 20, .tmp 21], argTypes := #[32, 32] }, none⟩, .f) <| .c (⟨none, .store 32 (.tmp 6) (.tmp 22), none⟩, .f) <| .c (⟨some 7, .assign (.const (.bool true)), none⟩, .p) <| .n) (.c (⟨some 20, .load 32 (.tmp 3), none⟩, .e) <| .c (⟨some 19, .call { callee := .value (.func 57), args := #[.tmp 18], argTypes := #[3] }, none⟩, .f) <| .c (⟨some 22, .call { callee := .value (.tmp 19), args := #[.tmp 20, .tmp 21], argTypes := #[32, 32] }, none⟩, .f) <| .c (⟨none, .store 32 (.tmp 6) (.tmp 22), none⟩, .f) <| .c (⟨some 7, .assign (.const (.bool true)), none⟩, .p) <| .n)))) Q a) : LI Try.prog h0 L (.raw (.region id rg23_1 true)) Q a :=
  LI_drawK (.c (0, .p) <| .t (.c (1, .f) <| .t (.c (2, .e) <| .c (3, .e) <| .c (4, .f) <| .c (5, .f) <| .c (6, .p) <| .n) (.c (3, .e) <| .c (2, .e) <| .c (4, .f) <| .c (5, .f) <| .c (6, .p) <| .n)) (.t (.c (2, .e) <| .t (.c (1, .f) <| .c (3, .e) <| .c (4, .f) <| .c (5, .f) <| .c (6, .p) <| .n) (.c (3, .e) <| .c (1, .f) <| .c (4, .f) <| .c (5, .f) <| .c (6, .p) <| .n)) (.c (3, .e) <| .t (.c (1, .f) <| .c (2, .e) <| .c (4, .f) <| .c (5, .f) <| .c (6, .p) <| .n) (.c (2, .e) <| .c (1, .f) <| .c (4, .f) <| .c (5, .f) <| .c (6, .p) <| .n)))) [1, 4, 5] K hK (by kernel_rfl) (by kernel_rfl) (by kernel_rfl) H
theorem dr23_1 (m : Nat) {Q : Exit → List AV → AH → Prop} {a : List AV} {h : AH} {id : Nat} (H : AX Try.prog m h [(⟨some 18, .move (.tmp 2), none⟩, true),
  (⟨some 20, .load 32 (.tmp 3), none⟩, true),
  (⟨some 21, .load 32 (.tmp 4), none⟩, true),
  (⟨some 19, .call { callee := .value (.func 57), args := #[.tmp 18], argTypes := #[3] }, none⟩, false),
  (⟨some 22, .call { callee := .value (.tmp 19), args := #[.tmp 20, .tmp 21], argTypes := #[32, 32] }, none⟩, false),
  (⟨none, .store 32 (.tmp 6) (.tmp 22), none⟩, false),
  (⟨some 7, .assign (.const (.bool true)), none⟩, true)] (fun a' h' => Q .normal a' h') a h) : AI Try.prog (.raw (.region id rg23_1 true)) Q a h :=
  AI_draw [(0, true), (2, true), (3, true), (1, false), (4, false), (5, false), (6, true)] m (by kernel_rfl) (by kernel_rfl) (by kernel_rfl) H

noncomputable def rg6_0 : Array Oper := rawAt Try.f6 0
-- NO ORDER
noncomputable def rg6_1 : Array Oper := rawAt Try.f6 1
-- NO ORDER
/-- laws.FnExactMatrixProduct -/
noncomputable def c6 : IC :=
  (.seq
  (.reg [
    ⟨some 3, .box 31 (.tmp 0), none⟩,
    ⟨some 4, .box 31 (.tmp 1), none⟩,
    ⟨some 6, .assign (.const (.bool false)), none⟩])
  (.seq
  (.raw (.region 1 rg6_0 true))
  (.seq
  (.raw (.region 2 rg6_1 true))
  (.seq
  (.seq
  (.reg [
    ⟨some 29, .load 32 (.tmp 9), none⟩,
    ⟨some 30, .load 32 (.tmp 7), none⟩,
    ⟨some 31, .call { callee := .value (.func 21), args := #[.tmp 29, .tmp 30], argTypes := #[32, 32] }, none⟩,
    ⟨some 32, .unOp .not 4 (.tmp 31), none⟩,
    ⟨some 33, .move (.tmp 32), none⟩,
    ⟨some 34, .move (.tmp 10), some (33, false)⟩,
    ⟨some 35, .move (.tmp 8), some (33, false)⟩,
    ⟨some 36, .binOp .neq 4 (.tmp 34) (.tmp 35) 4, some (33, false)⟩,
    ⟨some 37, .pick (.tmp 33) (.const (.bool true)) (.tmp 36), none⟩])
  (.cond (.tmp 37)
    (.seq
    (.reg [
      ⟨some 6, .assign (.const (.bool false)), none⟩])
    .ret)
    .skip))
  (.seq
  (.reg [
    ⟨some 6, .assign (.const (.bool true)), none⟩])
  .ret)))))
theorem hd6 : Try.f6.body.map dec = some c6 := by kernel_rfl
theorem e6 {R : AV → AH → Prop} {h : AH} (x0 x1 x2 : AV) (H : h.wf → AI Try.prog c6 (RetQ Try.prog [.tmp 6] R) [x0, x1, x2, un, un, un, un, un, un, un, un, un, un, un, un, un, un, un, un, un, un, un, un, un, un, un, un, un, un, un, un, un, un, un, un, un, un, un] h) : AC Try.prog 6 [x0, x1, x2] h R :=
  AC_of' (rs := [.tmp 6]) Try.func6 (by kernel_rfl) hd6 Try.ntmps6 rfl H
theorem dz6_0 {h0 : AH} {L : List It} {Q : Exit → List AV → List It → Prop} {a : List AV} {id : Nat} (H : LX Try.prog ⟨[10], []⟩ h0 L L (.c (⟨some 12, .load 31 (.tmp 3), none⟩, .l) <| .c (⟨some 14, .load 31 (.tmp 4), none⟩, .l) <| .c (⟨some 16, .move (.tmp 2), none⟩, .p) <| .t (.c (⟨some 13, .call { callee := .value (.func 19), args := #[.tmp 12], argTypes := #[31] }, none⟩, .e) <| .t (.c (⟨some 15, .call { callee := .value (.func 19), args := #[.tmp 14], argTypes := #[31] }, none⟩, .e) <| .t (.c (⟨some 17, .call { callee := .value (.func 22), args := #[.tmp 13, .tmp 15, .tmp 16], argTypes := #[32, 32, 3] }, none⟩, .e) <| .c (⟨some 11, .move (.tmp 17), none⟩, .p) <| .c (⟨some 18, .extract (.tmp 11) 0, none⟩, .p) <| .c (⟨some 19, .extract (.tmp 11) 1, none⟩, .p) <| .c (⟨some 7, .alloc 32, none⟩, .e) <| .c (⟨none, .store 32 (.tmp 7) (.tmp 18), none⟩, .f) <| .c (⟨some 8, .assign (.tmp 19), none⟩, .p) <| .n) (.c (⟨some 7, .alloc 32, none⟩, .e) <| .c (⟨some 17, .call { callee := .value (.func 22), args := #[.tmp 13, .tmp 15, .tmp 16], argTypes := #[32, 32, 3] }, none⟩, .e) <| .c (⟨some 11, .move (.tmp 17), none⟩, .p) <| .c (⟨some 18, .extract (.tmp 11) 0, none⟩, .p) <| .c (⟨some 19, .extract (.tmp 11) 1, none⟩, .p) <| .c (⟨none, .store 32 (.tmp 7) (.tmp 18), none⟩, .f) <| .c (⟨some 8, .assign (.tmp 19), none⟩, .p) <| .n)) (.c (⟨some 7, .alloc 32, none⟩, .e) <| .c (⟨some 15, .call { callee := .value (.func 19), args := #[.tmp 14], argTypes := #[31] }, none⟩, .e) <| .c (⟨some 17, .call { callee := .value (.func 22), args := #[.tmp 13, .tmp 15, .tmp 16], argTypes := #[32, 32, 3] }, none⟩, .e) <| .c (⟨some 11, .move (.tmp 17), none⟩, .p) <| .c (⟨some 18, .extract (.tmp 11) 0, none⟩, .p) <| .c (⟨some 19, .extract (.tmp 11) 1, none⟩, .p) <| .c (⟨none, .store 32 (.tmp 7) (.tmp 18), none⟩, .f) <| .c (⟨some 8, .assign (.tmp 19), none⟩, .p) <| .n)) (.c (⟨some 7, .alloc 32, none⟩, .e) <| .c (⟨some 13, .call { callee := .value (.func 19), args := #[.tmp 12], argTypes := #[31] }, none⟩, .e) <| .c (⟨some 15, .call { callee := .value (.func 19), args := #[.tmp 14], argTypes := #[31] }, none⟩, .e) <| .c (⟨some 17, .call { callee := .value (.func 22), args := #[.tmp 13, .tmp 15, .tmp 16], argTypes := #[32, 32, 3] }, none⟩, .e) <| .c (⟨some 11, .move (.tmp 17), none⟩, .p) <| .c (⟨some 18, .extract (.tmp 11) 0, none⟩, .p) <| .c (⟨some 19, .extract (.tmp 11) 1, none⟩, .p) <| .c (⟨none, .store 32 (.tmp 7) (.tmp 18), none⟩, .f) <| .c (⟨some 8, .assign (.tmp 19), none⟩, .p) <| .n)) Q a) : LI Try.prog h0 L (.raw (.region id rg6_0 true)) Q a :=
  LI_draw (.c (0, .l) <| .c (2, .l) <| .c (4, .p) <| .t (.c (1, .e) <| .t (.c (3, .e) <| .t (.c (5, .e) <| .c (6, .p) <| .c (7, .p) <| .c (8, .p) <| .c (9, .e) <| .c (10, .f) <| .c (11, .p) <| .n) (.c (9, .e) <| .c (5, .e) <| .c (6, .p) <| .c (7, .p) <| .c (8, .p) <| .c (10, .f) <| .c (11, .p) <| .n)) (.c (9, .e) <| .c (3, .e) <| .c (5, .e) <| .c (6, .p) <| .c (7, .p) <| .c (8, .p) <| .c (10, .f) <| .c (11, .p) <| .n)) (.c (9, .e) <| .c (1, .e) <| .c (3, .e) <| .c (5, .e) <| .c (6, .p) <| .c (7, .p) <| .c (8, .p) <| .c (10, .f) <| .c (11, .p) <| .n)) [10] (by kernel_rfl) (by kernel_rfl) (by kernel_rfl) H
theorem dz6_1 {h0 : AH} {L : List It} {Q : Exit → List AV → List It → Prop} {a : List AV} {id : Nat} (H : LX Try.prog ⟨[10], []⟩ h0 L L (.c (⟨some 21, .load 31 (.tmp 3), none⟩, .l) <| .c (⟨some 23, .load 31 (.tmp 4), none⟩, .l) <| .c (⟨some 25, .move (.tmp 2), none⟩, .p) <| .t (.c (⟨some 22, .call { callee := .value (.func 19), args := #[.tmp 21], argTypes := #[31] }, none⟩, .e) <| .t (.c (⟨some 24, .call { callee := .value (.func 19), args := #[.tmp 23], argTypes := #[31] }, none⟩, .e) <| .t (.c (⟨some 26, .call { callee := .value (.func 23), args := #[.tmp 22, .tmp 24, .tmp 25], argTypes := #[32, 32, 3] }, none⟩, .e) <| .c (⟨some 20, .move (.tmp 26), none⟩, .p) <| .c (⟨some 27, .extract (.tmp 20) 0, none⟩, .p) <| .c (⟨some 28, .extract (.tmp 20) 1, none⟩, .p) <| .c (⟨some 9, .alloc 32, none⟩, .e) <| .c (⟨none, .store 32 (.tmp 9) (.tmp 27), none⟩, .f) <| .c (⟨some 10, .assign (.tmp 28), none⟩, .p) <| .n) (.c (⟨some 9, .alloc 32, none⟩, .e) <| .c (⟨some 26, .call { callee := .value (.func 23), args := #[.tmp 22, .tmp 24, .tmp 25], argTypes := #[32, 32, 3] }, none⟩, .e) <| .c (⟨some 20, .move (.tmp 26), none⟩, .p) <| .c (⟨some 27, .extract (.tmp 20) 0, none⟩, .p) <| .c (⟨some 28, .extract (.tmp 20) 1, none⟩, .p) <| .c (⟨none, .store 32 (.tmp 9) (.tmp 27), none⟩, .f) <| .c (⟨some 10, .assign (.tmp 28), none⟩, .p) <| .n)) (.c (⟨some 9, .alloc 32, none⟩, .e) <| .c (⟨some 24, .call { callee := .value (.func 19), args := #[.tmp 23], argTypes := #[31] }, none⟩, .e) <| .c (⟨some 26, .call { callee := .value (.func 23), args := #[.tmp 22, .tmp 24, .tmp 25], argTypes := #[32, 32, 3] }, none⟩, .e) <| .c (⟨some 20, .move (.tmp 26), none⟩, .p) <| .c (⟨some 27, .extract (.tmp 20) 0, none⟩, .p) <| .c (⟨some 28, .extract (.tmp 20) 1, none⟩, .p) <| .c (⟨none, .store 32 (.tmp 9) (.tmp 27), none⟩, .f) <| .c (⟨some 10, .assign (.tmp 28), none⟩, .p) <| .n)) (.c (⟨some 9, .alloc 32, none⟩, .e) <| .c (⟨some 22, .call { callee := .value (.func 19), args := #[.tmp 21], argTypes := #[31] }, none⟩, .e) <| .c (⟨some 24, .call { callee := .value (.func 19), args := #[.tmp 23], argTypes := #[31] }, none⟩, .e) <| .c (⟨some 26, .call { callee := .value (.func 23), args := #[.tmp 22, .tmp 24, .tmp 25], argTypes := #[32, 32, 3] }, none⟩, .e) <| .c (⟨some 20, .move (.tmp 26), none⟩, .p) <| .c (⟨some 27, .extract (.tmp 20) 0, none⟩, .p) <| .c (⟨some 28, .extract (.tmp 20) 1, none⟩, .p) <| .c (⟨none, .store 32 (.tmp 9) (.tmp 27), none⟩, .f) <| .c (⟨some 10, .assign (.tmp 28), none⟩, .p) <| .n)) Q a) : LI Try.prog h0 L (.raw (.region id rg6_1 true)) Q a :=
  LI_draw (.c (0, .l) <| .c (2, .l) <| .c (4, .p) <| .t (.c (1, .e) <| .t (.c (3, .e) <| .t (.c (5, .e) <| .c (6, .p) <| .c (7, .p) <| .c (8, .p) <| .c (9, .e) <| .c (10, .f) <| .c (11, .p) <| .n) (.c (9, .e) <| .c (5, .e) <| .c (6, .p) <| .c (7, .p) <| .c (8, .p) <| .c (10, .f) <| .c (11, .p) <| .n)) (.c (9, .e) <| .c (3, .e) <| .c (5, .e) <| .c (6, .p) <| .c (7, .p) <| .c (8, .p) <| .c (10, .f) <| .c (11, .p) <| .n)) (.c (9, .e) <| .c (1, .e) <| .c (3, .e) <| .c (5, .e) <| .c (6, .p) <| .c (7, .p) <| .c (8, .p) <| .c (10, .f) <| .c (11, .p) <| .n)) [10] (by kernel_rfl) (by kernel_rfl) (by kernel_rfl) H

end Go.Proofs.Ytfgealbhigkddaa
