/- The short forms of the functions' code, and facts on types. -/
import Derived.Test.YtdeeeacnmkmeiaaProg
import Derived.Test.YtdeeeacnmkmeiaaC7
namespace Go.Proofs.Ytdeeeacnmkmeiaa
open Go.AL
set_option linter.unusedVariables false
theorem sz0 : szT Try.prog 0 = some 1 := by kernel_rfl
theorem by0 : byT Try.prog 0 = some 0 := by kernel_rfl
theorem ag0 : aggT Try.prog 0 = some false := by kernel_rfl
instance jsz0 : Tsz Try.prog 0 1 := ⟨sz0⟩
instance jby0 : Tby Try.prog 0 0 := ⟨by0⟩
instance jag0 : Tag Try.prog 0 false := ⟨ag0⟩
theorem sz1 : szT Try.prog 1 = some 1 := by kernel_rfl
theorem by1 : byT Try.prog 1 = some 8 := by kernel_rfl
theorem ag1 : aggT Try.prog 1 = some false := by kernel_rfl
instance jsz1 : Tsz Try.prog 1 1 := ⟨sz1⟩
instance jby1 : Tby Try.prog 1 8 := ⟨by1⟩
instance jag1 : Tag Try.prog 1 false := ⟨ag1⟩
theorem ze1 : zeroA Try.prog 1 = some .nf := by kernel_rfl
instance jze1 : Tze Try.prog 1 (.nf) := ⟨ze1⟩
theorem sz2 : szT Try.prog 2 = some 1 := by kernel_rfl
theorem by2 : byT Try.prog 2 = some 8 := by kernel_rfl
theorem ag2 : aggT Try.prog 2 = some false := by kernel_rfl
instance jsz2 : Tsz Try.prog 2 1 := ⟨sz2⟩
instance jby2 : Tby Try.prog 2 8 := ⟨by2⟩
instance jag2 : Tag Try.prog 2 false := ⟨ag2⟩
instance jik2 : Tik Try.prog 2 .i64 := ⟨Try.underlying2⟩
theorem ze2 : zeroA Try.prog 2 = some (.i .i64 0) := by kernel_rfl
instance jze2 : Tze Try.prog 2 (.i .i64 0) := ⟨ze2⟩
theorem sz3 : szT Try.prog 3 = some 1 := by kernel_rfl
theorem by3 : byT Try.prog 3 = some 8 := by kernel_rfl
theorem ag3 : aggT Try.prog 3 = some false := by kernel_rfl
instance jsz3 : Tsz Try.prog 3 1 := ⟨sz3⟩
instance jby3 : Tby Try.prog 3 8 := ⟨by3⟩
instance jag3 : Tag Try.prog 3 false := ⟨ag3⟩
instance jik3 : Tik Try.prog 3 .i64 := ⟨Try.underlying3⟩
theorem ze3 : zeroA Try.prog 3 = some (.i .i64 0) := by kernel_rfl
instance jze3 : Tze Try.prog 3 (.i .i64 0) := ⟨ze3⟩
theorem sz4 : szT Try.prog 4 = some 1 := by kernel_rfl
theorem by4 : byT Try.prog 4 = some 1 := by kernel_rfl
theorem ag4 : aggT Try.prog 4 = some false := by kernel_rfl
instance jsz4 : Tsz Try.prog 4 1 := ⟨sz4⟩
instance jby4 : Tby Try.prog 4 1 := ⟨by4⟩
instance jag4 : Tag Try.prog 4 false := ⟨ag4⟩
instance jbo4 : Tbo Try.prog 4 := ⟨Try.underlying4⟩
theorem ze4 : zeroA Try.prog 4 = some (.b false) := by kernel_rfl
instance jze4 : Tze Try.prog 4 (.b false) := ⟨ze4⟩
theorem sz24 : szT Try.prog 24 = some 1 := by kernel_rfl
theorem by24 : byT Try.prog 24 = some 24 := by kernel_rfl
theorem ag24 : aggT Try.prog 24 = some false := by kernel_rfl
instance jsz24 : Tsz Try.prog 24 1 := ⟨sz24⟩
instance jby24 : Tby Try.prog 24 24 := ⟨by24⟩
instance jag24 : Tag Try.prog 24 false := ⟨ag24⟩
instance jsl24 : Tsl Try.prog 24 35 := ⟨Try.underlying24⟩
theorem ze24 : zeroA Try.prog 24 = some .ns := by kernel_rfl
instance jze24 : Tze Try.prog 24 (.ns) := ⟨ze24⟩
theorem sz25 : szT Try.prog 25 = some 1 := by kernel_rfl
theorem by25 : byT Try.prog 25 = some 24 := by kernel_rfl
theorem ag25 : aggT Try.prog 25 = some false := by kernel_rfl
instance jsz25 : Tsz Try.prog 25 1 := ⟨sz25⟩
instance jby25 : Tby Try.prog 25 24 := ⟨by25⟩
instance jag25 : Tag Try.prog 25 false := ⟨ag25⟩
instance jsl25 : Tsl Try.prog 25 3 := ⟨Try.underlying25⟩
theorem ze25 : zeroA Try.prog 25 = some .ns := by kernel_rfl
instance jze25 : Tze Try.prog 25 (.ns) := ⟨ze25⟩
theorem sz27 : szT Try.prog 27 = some 3 := by kernel_rfl
theorem by27 : byT Try.prog 27 = some 56 := by kernel_rfl
theorem ag27 : aggT Try.prog 27 = some true := by kernel_rfl
instance jsz27 : Tsz Try.prog 27 3 := ⟨sz27⟩
instance jby27 : Tby Try.prog 27 56 := ⟨by27⟩
instance jag27 : Tag Try.prog 27 true := ⟨ag27⟩
theorem ze27 : zeroA Try.prog 27 = some (.agg [(.i .i64 0), .ns, .ns]) := by kernel_rfl
instance jze27 : Tze Try.prog 27 (.agg [(.i .i64 0), .ns, .ns]) := ⟨ze27⟩
theorem fl27_0 : fldA Try.prog 27 0 = some (0, 1, false) := by kernel_rfl
instance jfl27_0 : Tfl Try.prog 27 0 0 1 false := ⟨fl27_0⟩
theorem fl27_1 : fldA Try.prog 27 1 = some (1, 1, false) := by kernel_rfl
instance jfl27_1 : Tfl Try.prog 27 1 1 1 false := ⟨fl27_1⟩
theorem fl27_2 : fldA Try.prog 27 2 = some (2, 1, false) := by kernel_rfl
instance jfl27_2 : Tfl Try.prog 27 2 2 1 false := ⟨fl27_2⟩
theorem pa27 : plA Try.prog 27 = some [(0, 1), (1, 1), (2, 1)] := by kernel_rfl
instance jpl27 : Tpl Try.prog 27 [(0, 1), (1, 1), (2, 1)] := ⟨pa27⟩
theorem sz35 : szT Try.prog 35 = some 2 := by kernel_rfl
theorem by35 : byT Try.prog 35 = some 16 := by kernel_rfl
theorem ag35 : aggT Try.prog 35 = some true := by kernel_rfl
instance jsz35 : Tsz Try.prog 35 2 := ⟨sz35⟩
instance jby35 : Tby Try.prog 35 16 := ⟨by35⟩
instance jag35 : Tag Try.prog 35 true := ⟨ag35⟩
theorem ze35 : zeroA Try.prog 35 = some (.agg [(.i .i64 0), (.i .i64 0)]) := by kernel_rfl
instance jze35 : Tze Try.prog 35 (.agg [(.i .i64 0), (.i .i64 0)]) := ⟨ze35⟩
theorem fl35_0 : fldA Try.prog 35 0 = some (0, 1, false) := by kernel_rfl
instance jfl35_0 : Tfl Try.prog 35 0 0 1 false := ⟨fl35_0⟩
theorem fl35_1 : fldA Try.prog 35 1 = some (1, 1, false) := by kernel_rfl
instance jfl35_1 : Tfl Try.prog 35 1 1 1 false := ⟨fl35_1⟩
theorem pa35 : plA Try.prog 35 = some [(0, 1), (1, 1)] := by kernel_rfl
instance jpl35 : Tpl Try.prog 35 [(0, 1), (1, 1)] := ⟨pa35⟩
theorem sz36 : szT Try.prog 36 = some 1 := by kernel_rfl
theorem by36 : byT Try.prog 36 = some 24 := by kernel_rfl
theorem ag36 : aggT Try.prog 36 = some false := by kernel_rfl
instance jsz36 : Tsz Try.prog 36 1 := ⟨sz36⟩
instance jby36 : Tby Try.prog 36 24 := ⟨by36⟩
instance jag36 : Tag Try.prog 36 false := ⟨ag36⟩
instance jsl36 : Tsl Try.prog 36 121 := ⟨Try.underlying36⟩
theorem ze36 : zeroA Try.prog 36 = some .ns := by kernel_rfl
instance jze36 : Tze Try.prog 36 (.ns) := ⟨ze36⟩
theorem sz38 : szT Try.prog 38 = some 3 := by kernel_rfl
theorem by38 : byT Try.prog 38 = some 56 := by kernel_rfl
theorem ag38 : aggT Try.prog 38 = some true := by kernel_rfl
instance jsz38 : Tsz Try.prog 38 3 := ⟨sz38⟩
instance jby38 : Tby Try.prog 38 56 := ⟨by38⟩
instance jag38 : Tag Try.prog 38 true := ⟨ag38⟩
theorem ze38 : zeroA Try.prog 38 = some (.agg [(.i .i64 0), .ns, .ns]) := by kernel_rfl
instance jze38 : Tze Try.prog 38 (.agg [(.i .i64 0), .ns, .ns]) := ⟨ze38⟩
theorem fl38_0 : fldA Try.prog 38 0 = some (0, 1, false) := by kernel_rfl
instance jfl38_0 : Tfl Try.prog 38 0 0 1 false := ⟨fl38_0⟩
theorem fl38_1 : fldA Try.prog 38 1 = some (1, 1, false) := by kernel_rfl
instance jfl38_1 : Tfl Try.prog 38 1 1 1 false := ⟨fl38_1⟩
theorem fl38_2 : fldA Try.prog 38 2 = some (2, 1, false) := by kernel_rfl
instance jfl38_2 : Tfl Try.prog 38 2 2 1 false := ⟨fl38_2⟩
theorem pa38 : plA Try.prog 38 = some [(0, 1), (1, 1), (2, 1)] := by kernel_rfl
instance jpl38 : Tpl Try.prog 38 [(0, 1), (1, 1), (2, 1)] := ⟨pa38⟩
theorem sz77 : szT Try.prog 77 = some 1 := by kernel_rfl
theorem by77 : byT Try.prog 77 = some 24 := by kernel_rfl
theorem ag77 : aggT Try.prog 77 = some false := by kernel_rfl
instance jsz77 : Tsz Try.prog 77 1 := ⟨sz77⟩
instance jby77 : Tby Try.prog 77 24 := ⟨by77⟩
instance jag77 : Tag Try.prog 77 false := ⟨ag77⟩
instance jsl77 : Tsl Try.prog 77 25 := ⟨Try.underlying77⟩
theorem ze77 : zeroA Try.prog 77 = some .ns := by kernel_rfl
instance jze77 : Tze Try.prog 77 (.ns) := ⟨ze77⟩
theorem sz92 : szT Try.prog 92 = some 1 := by kernel_rfl
theorem by92 : byT Try.prog 92 = some 8 := by kernel_rfl
theorem ag92 : aggT Try.prog 92 = some false := by kernel_rfl
instance jsz92 : Tsz Try.prog 92 1 := ⟨sz92⟩
instance jby92 : Tby Try.prog 92 8 := ⟨by92⟩
instance jag92 : Tag Try.prog 92 false := ⟨ag92⟩
theorem ze92 : zeroA Try.prog 92 = some .np := by kernel_rfl
instance jze92 : Tze Try.prog 92 (.np) := ⟨ze92⟩
theorem sz97 : szT Try.prog 97 = some 1 := by kernel_rfl
theorem by97 : byT Try.prog 97 = some 24 := by kernel_rfl
theorem ag97 : aggT Try.prog 97 = some false := by kernel_rfl
instance jsz97 : Tsz Try.prog 97 1 := ⟨sz97⟩
instance jby97 : Tby Try.prog 97 24 := ⟨by97⟩
instance jag97 : Tag Try.prog 97 false := ⟨ag97⟩
instance jsl97 : Tsl Try.prog 97 4 := ⟨Try.underlying97⟩
theorem ze97 : zeroA Try.prog 97 = some .ns := by kernel_rfl
instance jze97 : Tze Try.prog 97 (.ns) := ⟨ze97⟩
theorem sz103 : szT Try.prog 103 = some 1 := by kernel_rfl
theorem by103 : byT Try.prog 103 = some 8 := by kernel_rfl
theorem ag103 : aggT Try.prog 103 = some false := by kernel_rfl
instance jsz103 : Tsz Try.prog 103 1 := ⟨sz103⟩
instance jby103 : Tby Try.prog 103 8 := ⟨by103⟩
instance jag103 : Tag Try.prog 103 false := ⟨ag103⟩
theorem ze103 : zeroA Try.prog 103 = some .nf := by kernel_rfl
instance jze103 : Tze Try.prog 103 (.nf) := ⟨ze103⟩
theorem sz118 : szT Try.prog 118 = some 1 := by kernel_rfl
theorem by118 : byT Try.prog 118 = some 8 := by kernel_rfl
theorem ag118 : aggT Try.prog 118 = some false := by kernel_rfl
instance jsz118 : Tsz Try.prog 118 1 := ⟨sz118⟩
instance jby118 : Tby Try.prog 118 8 := ⟨by118⟩
instance jag118 : Tag Try.prog 118 false := ⟨ag118⟩
theorem ze118 : zeroA Try.prog 118 = some .nf := by kernel_rfl
instance jze118 : Tze Try.prog 118 (.nf) := ⟨ze118⟩
theorem sz121 : szT Try.prog 121 = some 2 := by kernel_rfl
theorem by121 : byT Try.prog 121 = some 16 := by kernel_rfl
theorem ag121 : aggT Try.prog 121 = some true := by kernel_rfl
instance jsz121 : Tsz Try.prog 121 2 := ⟨sz121⟩
instance jby121 : Tby Try.prog 121 16 := ⟨by121⟩
instance jag121 : Tag Try.prog 121 true := ⟨ag121⟩
theorem ze121 : zeroA Try.prog 121 = some (.agg [(.i .i64 0), (.i .i64 0)]) := by kernel_rfl
instance jze121 : Tze Try.prog 121 (.agg [(.i .i64 0), (.i .i64 0)]) := ⟨ze121⟩
theorem fl121_0 : fldA Try.prog 121 0 = some (0, 1, false) := by kernel_rfl
instance jfl121_0 : Tfl Try.prog 121 0 0 1 false := ⟨fl121_0⟩
theorem fl121_1 : fldA Try.prog 121 1 = some (1, 1, false) := by kernel_rfl
instance jfl121_1 : Tfl Try.prog 121 1 1 1 false := ⟨fl121_1⟩
theorem pa121 : plA Try.prog 121 = some [(0, 1), (1, 1)] := by kernel_rfl
instance jpl121 : Tpl Try.prog 121 [(0, 1), (1, 1)] := ⟨pa121⟩
theorem sz126 : szT Try.prog 126 = some 1 := by kernel_rfl
theorem by126 : byT Try.prog 126 = some 8 := by kernel_rfl
theorem ag126 : aggT Try.prog 126 = some false := by kernel_rfl
instance jsz126 : Tsz Try.prog 126 1 := ⟨sz126⟩
instance jby126 : Tby Try.prog 126 8 := ⟨by126⟩
instance jag126 : Tag Try.prog 126 false := ⟨ag126⟩
theorem ze126 : zeroA Try.prog 126 = some .nf := by kernel_rfl
instance jze126 : Tze Try.prog 126 (.nf) := ⟨ze126⟩

/-- laws.szStepS -/
def c63 : IC :=
  (.seq
  (.reg [
    ⟨some 4, .assign (.const (.int .i64 0)), none⟩])
  (.seq
  (.reg [
    ⟨some 5, .move (.tmp 1), none⟩,
    ⟨some 6, .move (.tmp 0), none⟩,
    ⟨some 7, .call { callee := .builtin .len, args := #[.tmp 6], argTypes := #[36] }, none⟩,
    ⟨some 8, .binOp .sub 3 (.tmp 5) (.tmp 7) 3, none⟩,
    ⟨some 1, .assign (.tmp 8), none⟩])
  (.seq
  (.seq
  (.reg [
    ⟨some 9, .move (.tmp 1), none⟩,
    ⟨some 10, .binOp .lss 3 (.tmp 9) (.const (.int .i64 0)) 3, none⟩])
  (.cond (.tmp 10)
    (.seq
    (.reg [
      ⟨some 4, .assign (.const (.int .i64 (-1))), none⟩])
    .ret)
    .skip))
  (.seq
  (.reg [
    ⟨some 11, .move (.tmp 1), none⟩,
    ⟨some 4, .assign (.tmp 11), none⟩])
  .ret))))
theorem hd63 : Try.f63.body.map dec = some c63 := by kernel_rfl
theorem e63 {R : AV → AH → Prop} {h : AH} (x0 x1 : AV) (H : h.wf → AI Try.prog c63 (RetQ Try.prog [.tmp 4] R) [x0, x1, un, un, un, un, un, un, un, un, un, un] h) : AC Try.prog 63 [x0, x1] h R :=
  AC_of' (rs := [.tmp 4]) Try.func63 (by kernel_rfl) hd63 Try.ntmps63 rfl H

/-- laws.szIntS -/
def c64 : IC :=
  (.seq
  (.reg [
    ⟨some 4, .assign (.const (.int .i64 0)), none⟩])
  (.seq
  (.reg [
    ⟨some 5, .move (.tmp 1), none⟩,
    ⟨some 6, .move (.tmp 0), none⟩,
    ⟨some 7, .call { callee := .builtin .len, args := #[.tmp 6], argTypes := #[25] }, none⟩,
    ⟨some 8, .binOp .sub 3 (.tmp 5) (.tmp 7) 3, none⟩,
    ⟨some 1, .assign (.tmp 8), none⟩])
  (.seq
  (.seq
  (.reg [
    ⟨some 9, .move (.tmp 1), none⟩,
    ⟨some 10, .binOp .lss 3 (.tmp 9) (.const (.int .i64 0)) 3, none⟩])
  (.cond (.tmp 10)
    (.seq
    (.reg [
      ⟨some 4, .assign (.const (.int .i64 (-1))), none⟩])
    .ret)
    .skip))
  (.seq
  (.reg [
    ⟨some 11, .move (.tmp 1), none⟩,
    ⟨some 4, .assign (.tmp 11), none⟩])
  .ret))))
theorem hd64 : Try.f64.body.map dec = some c64 := by kernel_rfl
theorem e64 {R : AV → AH → Prop} {h : AH} (x0 x1 : AV) (H : h.wf → AI Try.prog c64 (RetQ Try.prog [.tmp 4] R) [x0, x1, un, un, un, un, un, un, un, un, un, un] h) : AC Try.prog 64 [x0, x1] h R :=
  AC_of' (rs := [.tmp 4]) Try.func64 (by kernel_rfl) hd64 Try.ntmps64 rfl H

/-- laws.szPlan -/
def c20 : IC :=
  (.seq
  (.reg [
    ⟨some 2, .box 38 (.tmp 0), none⟩,
    ⟨some 4, .assign (.const (.int .i64 0)), none⟩])
  (.seq
  (.reg [
    ⟨some 5, .fieldAddr 38 (.tmp 2) 1, none⟩,
    ⟨some 6, .load 36 (.tmp 5), none⟩,
    ⟨some 7, .move (.tmp 1), none⟩,
    ⟨some 8, .call { callee := .value (.func 63), args := #[.tmp 6, .tmp 7], argTypes := #[36, 3] }, none⟩,
    ⟨some 1, .assign (.tmp 8), none⟩])
  (.seq
  (.seq
  (.reg [
    ⟨some 9, .move (.tmp 1), none⟩,
    ⟨some 10, .binOp .lss 3 (.tmp 9) (.const (.int .i64 0)) 3, none⟩])
  (.cond (.tmp 10)
    (.seq
    (.reg [
      ⟨some 4, .assign (.const (.int .i64 (-1))), none⟩])
    .ret)
    .skip))
  (.seq
  (.reg [
    ⟨some 11, .fieldAddr 38 (.tmp 2) 2, none⟩,
    ⟨some 12, .load 25 (.tmp 11), none⟩,
    ⟨some 13, .move (.tmp 1), none⟩,
    ⟨some 14, .call { callee := .value (.func 64), args := #[.tmp 12, .tmp 13], argTypes := #[25, 3] }, none⟩,
    ⟨some 1, .assign (.tmp 14), none⟩])
  (.seq
  (.seq
  (.reg [
    ⟨some 15, .move (.tmp 1), none⟩,
    ⟨some 16, .binOp .lss 3 (.tmp 15) (.const (.int .i64 0)) 3, none⟩])
  (.cond (.tmp 16)
    (.seq
    (.reg [
      ⟨some 4, .assign (.const (.int .i64 (-1))), none⟩])
    .ret)
    .skip))
  (.seq
  (.reg [
    ⟨some 17, .move (.tmp 1), none⟩,
    ⟨some 4, .assign (.tmp 17), none⟩])
  .ret))))))
theorem hd20 : Try.f20.body.map dec = some c20 := by kernel_rfl
theorem e20 {R : AV → AH → Prop} {h : AH} (x0 x1 : AV) (H : h.wf → AI Try.prog c20 (RetQ Try.prog [.tmp 4] R) [x0, x1, un, un, un, un, un, un, un, un, un, un, un, un, un, un, un, un] h) : AC Try.prog 20 [x0, x1] h R :=
  AC_of' (rs := [.tmp 4]) Try.func20 (by kernel_rfl) hd20 Try.ntmps20 rfl H

/-- laws.toIntS -/
def c36 : IC :=
  (.seq
  (.reg [
    ⟨some 2, .assign (.const (.slice none 0 0)), none⟩])
  (.seq
  (.reg [
    ⟨some 5, .move (.tmp 0), none⟩,
    ⟨some 6, .call { callee := .builtin .len, args := #[.tmp 5], argTypes := #[25] }, none⟩,
    ⟨some 7, .makeSlice 25 (.tmp 6) (.tmp 6), none⟩,
    ⟨some 3, .assign (.tmp 7), none⟩])
  (.seq
  (.seq
  (.reg [
    ⟨some 4, .assign (.const (.int .i64 0)), none⟩])
  (.block 0
  (.loop
    (.seq
    (.seq
    (.reg [
      ⟨some 8, .move (.tmp 4), none⟩,
      ⟨some 9, .move (.tmp 0), none⟩,
      ⟨some 10, .call { callee := .builtin .len, args := #[.tmp 9], argTypes := #[25] }, none⟩,
      ⟨some 11, .binOp .lss 3 (.tmp 8) (.tmp 10) 3, none⟩])
    (.cond (.tmp 11)
      .skip
      (.exit 0)))
    (.seq
    (.block 1
    (.reg [
      ⟨some 14, .move (.tmp 3), none⟩,
      ⟨some 15, .move (.tmp 4), none⟩,
      ⟨some 16, .move (.tmp 0), none⟩,
      ⟨some 17, .move (.tmp 4), none⟩,
      ⟨some 18, .indexAddr 25 (.tmp 16) (.tmp 17), none⟩,
      ⟨some 19, .load 3 (.tmp 18), none⟩,
      ⟨some 20, .indexAddr 25 (.tmp 14) (.tmp 15), none⟩,
      ⟨none, .store 3 (.tmp 20) (.tmp 19), none⟩]))
    (.reg [
      ⟨some 12, .move (.tmp 4), none⟩,
      ⟨some 13, .binOp .add 3 (.tmp 12) (.const (.int .i64 1)) 3, none⟩,
      ⟨some 4, .assign (.tmp 13), none⟩]))))))
  (.seq
  (.reg [
    ⟨some 21, .move (.tmp 3), none⟩,
    ⟨some 2, .assign (.tmp 21), none⟩])
  .ret))))
theorem hd36 : Try.f36.body.map dec = some c36 := by kernel_rfl
theorem e36 {R : AV → AH → Prop} {h : AH} (x0 : AV) (H : h.wf → AI Try.prog c36 (RetQ Try.prog [.tmp 2] R) [x0, un, un, un, un, un, un, un, un, un, un, un, un, un, un, un, un, un, un, un, un, un] h) : AC Try.prog 36 [x0] h R :=
  AC_of' (rs := [.tmp 2]) Try.func36 (by kernel_rfl) hd36 Try.ntmps36 rfl H

/-- laws.toStep -/
def c115 : IC :=
  (.seq
  (.reg [
    ⟨some 1, .box 121 (.tmp 0), none⟩,
    ⟨some 2, .alloc 35, none⟩])
  (.seq
  (.reg [
    ⟨some 3, .alloc 35, none⟩])
  (.seq
  (.reg [
    ⟨some 4, .fieldAddr 121 (.tmp 1) 0, none⟩,
    ⟨some 5, .load 3 (.tmp 4), none⟩,
    ⟨some 6, .fieldAddr 35 (.tmp 3) 0, none⟩,
    ⟨none, .store 3 (.tmp 6) (.tmp 5), none⟩])
  (.seq
  (.reg [
    ⟨some 7, .fieldAddr 121 (.tmp 1) 1, none⟩,
    ⟨some 8, .load 3 (.tmp 7), none⟩,
    ⟨some 9, .fieldAddr 35 (.tmp 3) 1, none⟩,
    ⟨none, .store 3 (.tmp 9) (.tmp 8), none⟩])
  (.seq
  (.reg [
    ⟨some 10, .load 35 (.tmp 3), none⟩,
    ⟨none, .store 35 (.tmp 2) (.tmp 10), none⟩])
  .ret)))))
theorem hd115 : Try.f115.body.map dec = some c115 := by kernel_rfl
theorem e115 {R : AV → AH → Prop} {h : AH} (x0 : AV) (H : h.wf → AI Try.prog c115 (RetQ Try.prog [.cell 2 35] R) [x0, un, un, un, un, un, un, un, un, un, un] h) : AC Try.prog 115 [x0] h R :=
  AC_of' (rs := [.cell 2 35]) Try.func115 (by kernel_rfl) hd115 Try.ntmps115 rfl H

/-- laws.toStepS -/
def c65 : IC :=
  (.seq
  (.reg [
    ⟨some 2, .assign (.const (.slice none 0 0)), none⟩])
  (.seq
  (.reg [
    ⟨some 5, .move (.tmp 0), none⟩,
    ⟨some 6, .call { callee := .builtin .len, args := #[.tmp 5], argTypes := #[36] }, none⟩,
    ⟨some 7, .makeSlice 24 (.tmp 6) (.tmp 6), none⟩,
    ⟨some 3, .assign (.tmp 7), none⟩])
  (.seq
  (.seq
  (.reg [
    ⟨some 4, .assign (.const (.int .i64 0)), none⟩])
  (.block 0
  (.loop
    (.seq
    (.seq
    (.reg [
      ⟨some 8, .move (.tmp 4), none⟩,
      ⟨some 9, .move (.tmp 0), none⟩,
      ⟨some 10, .call { callee := .builtin .len, args := #[.tmp 9], argTypes := #[36] }, none⟩,
      ⟨some 11, .binOp .lss 3 (.tmp 8) (.tmp 10) 3, none⟩])
    (.cond (.tmp 11)
      .skip
      (.exit 0)))
    (.seq
    (.block 1
    (.reg [
      ⟨some 14, .move (.tmp 3), none⟩,
      ⟨some 15, .move (.tmp 4), none⟩,
      ⟨some 16, .move (.tmp 0), none⟩,
      ⟨some 17, .move (.tmp 4), none⟩,
      ⟨some 18, .indexAddr 36 (.tmp 16) (.tmp 17), none⟩,
      ⟨some 19, .load 121 (.tmp 18), none⟩,
      ⟨some 20, .call { callee := .value (.func 115), args := #[.tmp 19], argTypes := #[121] }, none⟩,
      ⟨some 21, .indexAddr 24 (.tmp 14) (.tmp 15), none⟩,
      ⟨none, .store 35 (.tmp 21) (.tmp 20), none⟩]))
    (.reg [
      ⟨some 12, .move (.tmp 4), none⟩,
      ⟨some 13, .binOp .add 3 (.tmp 12) (.const (.int .i64 1)) 3, none⟩,
      ⟨some 4, .assign (.tmp 13), none⟩]))))))
  (.seq
  (.reg [
    ⟨some 22, .move (.tmp 3), none⟩,
    ⟨some 2, .assign (.tmp 22), none⟩])
  .ret))))
theorem hd65 : Try.f65.body.map dec = some c65 := by kernel_rfl
theorem e65 {R : AV → AH → Prop} {h : AH} (x0 : AV) (H : h.wf → AI Try.prog c65 (RetQ Try.prog [.tmp 2] R) [x0, un, un, un, un, un, un, un, un, un, un, un, un, un, un, un, un, un, un, un, un, un, un] h) : AC Try.prog 65 [x0] h R :=
  AC_of' (rs := [.tmp 2]) Try.func65 (by kernel_rfl) hd65 Try.ntmps65 rfl H

/-- laws.toPlan -/
def c21 : IC :=
  (.seq
  (.reg [
    ⟨some 1, .box 38 (.tmp 0), none⟩,
    ⟨some 2, .alloc 27, none⟩])
  (.seq
  (.reg [
    ⟨some 3, .alloc 27, none⟩])
  (.seq
  (.reg [
    ⟨some 4, .fieldAddr 38 (.tmp 1) 0, none⟩,
    ⟨some 5, .load 3 (.tmp 4), none⟩,
    ⟨some 6, .fieldAddr 27 (.tmp 3) 0, none⟩,
    ⟨none, .store 3 (.tmp 6) (.tmp 5), none⟩])
  (.seq
  (.reg [
    ⟨some 7, .fieldAddr 38 (.tmp 1) 1, none⟩,
    ⟨some 8, .load 36 (.tmp 7), none⟩,
    ⟨some 9, .call { callee := .value (.func 65), args := #[.tmp 8], argTypes := #[36] }, none⟩,
    ⟨some 10, .fieldAddr 27 (.tmp 3) 1, none⟩,
    ⟨none, .store 24 (.tmp 10) (.tmp 9), none⟩])
  (.seq
  (.reg [
    ⟨some 11, .fieldAddr 38 (.tmp 1) 2, none⟩,
    ⟨some 12, .load 25 (.tmp 11), none⟩,
    ⟨some 13, .call { callee := .value (.func 36), args := #[.tmp 12], argTypes := #[25] }, none⟩,
    ⟨some 14, .fieldAddr 27 (.tmp 3) 2, none⟩,
    ⟨none, .store 25 (.tmp 14) (.tmp 13), none⟩])
  (.seq
  (.reg [
    ⟨some 15, .load 27 (.tmp 3), none⟩,
    ⟨none, .store 27 (.tmp 2) (.tmp 15), none⟩])
  .ret))))))
theorem hd21 : Try.f21.body.map dec = some c21 := by kernel_rfl
theorem e21 {R : AV → AH → Prop} {h : AH} (x0 : AV) (H : h.wf → AI Try.prog c21 (RetQ Try.prog [.cell 2 27] R) [x0, un, un, un, un, un, un, un, un, un, un, un, un, un, un, un] h) : AC Try.prog 21 [x0] h R :=
  AC_of' (rs := [.cell 2 27]) Try.func21 (by kernel_rfl) hd21 Try.ntmps21 rfl H

noncomputable def rg27_0 : Array Oper := rawAt Try.f27 0
/-- laws.eqIntS -/
noncomputable def c27 : IC :=
  (.seq
  (.reg [
    ⟨some 4, .assign (.const (.bool false)), none⟩])
  (.seq
  (.seq
  (.reg [
    ⟨some 6, .move (.tmp 0), none⟩,
    ⟨some 7, .call { callee := .builtin .len, args := #[.tmp 6], argTypes := #[25] }, none⟩,
    ⟨some 8, .move (.tmp 1), none⟩,
    ⟨some 9, .call { callee := .builtin .len, args := #[.tmp 8], argTypes := #[25] }, none⟩,
    ⟨some 10, .binOp .neq 3 (.tmp 7) (.tmp 9) 3, none⟩])
  (.cond (.tmp 10)
    (.seq
    (.reg [
      ⟨some 4, .assign (.const (.bool false)), none⟩])
    .ret)
    .skip))
  (.seq
  (.seq
  (.reg [
    ⟨some 5, .assign (.const (.int .i64 0)), none⟩])
  (.block 0
  (.loop
    (.seq
    (.seq
    (.reg [
      ⟨some 11, .move (.tmp 5), none⟩,
      ⟨some 12, .move (.tmp 0), none⟩,
      ⟨some 13, .call { callee := .builtin .len, args := #[.tmp 12], argTypes := #[25] }, none⟩,
      ⟨some 14, .binOp .lss 3 (.tmp 11) (.tmp 13) 3, none⟩])
    (.cond (.tmp 14)
      .skip
      (.exit 0)))
    (.seq
    (.block 1
    (.seq
    (.raw (.region 6 rg27_0 true))
    (.cond (.tmp 25)
      (.seq
      (.reg [
        ⟨some 4, .assign (.const (.bool false)), none⟩])
      .ret)
      .skip)))
    (.reg [
      ⟨some 15, .move (.tmp 5), none⟩,
      ⟨some 16, .binOp .add 3 (.tmp 15) (.const (.int .i64 1)) 3, none⟩,
      ⟨some 5, .assign (.tmp 16), none⟩]))))))
  (.seq
  (.reg [
    ⟨some 4, .assign (.const (.bool true)), none⟩])
  .ret))))
theorem hd27 : Try.f27.body.map dec = some c27 := by kernel_rfl
theorem e27 {R : AV → AH → Prop} {h : AH} (x0 x1 : AV) (H : h.wf → AI Try.prog c27 (RetQ Try.prog [.tmp 4] R) [x0, x1, un, un, un, un, un, un, un, un, un, un, un, un, un, un, un, un, un, un, un, un, un, un, un, un] h) : AC Try.prog 27 [x0, x1] h R :=
  AC_of' (rs := [.tmp 4]) Try.func27 (by kernel_rfl) hd27 Try.ntmps27 rfl H
theorem dz27_0 {h0 : AH} {L : List It} {Q : Exit → List AV → List It → Prop} {a : List AV} {id : Nat} (H : LX Try.prog ⟨[], []⟩ h0 L L (.c (⟨some 17, .move (.tmp 0), none⟩, .p) <| .c (⟨some 18, .move (.tmp 5), none⟩, .p) <| .c (⟨some 19, .indexAddr 25 (.tmp 17) (.tmp 18), none⟩, .p) <| .c (⟨some 20, .load 3 (.tmp 19), none⟩, .l) <| .c (⟨some 21, .move (.tmp 1), none⟩, .p) <| .c (⟨some 22, .move (.tmp 5), none⟩, .p) <| .c (⟨some 23, .indexAddr 25 (.tmp 21) (.tmp 22), none⟩, .p) <| .c (⟨some 24, .load 3 (.tmp 23), none⟩, .l) <| .c (⟨some 25, .binOp .neq 3 (.tmp 20) (.tmp 24) 3, none⟩, .p) <| .n) Q a) : LI Try.prog h0 L (.raw (.region id rg27_0 true)) Q a :=
  LI_draw (.c (0, .p) <| .c (1, .p) <| .c (2, .p) <| .c (3, .l) <| .c (4, .p) <| .c (5, .p) <| .c (6, .p) <| .c (7, .l) <| .c (8, .p) <| .n) [] (by kernel_rfl) (by kernel_rfl) (by kernel_rfl) H
theorem dr27_0 (m : Nat) {Q : Exit → List AV → AH → Prop} {a : List AV} {h : AH} {id : Nat} (H : AX Try.prog m h [(⟨some 17, .move (.tmp 0), none⟩, true),
  (⟨some 18, .move (.tmp 5), none⟩, true),
  (⟨some 19, .indexAddr 25 (.tmp 17) (.tmp 18), none⟩, true),
  (⟨some 20, .load 3 (.tmp 19), none⟩, true),
  (⟨some 21, .move (.tmp 1), none⟩, true),
  (⟨some 22, .move (.tmp 5), none⟩, true),
  (⟨some 23, .indexAddr 25 (.tmp 21) (.tmp 22), none⟩, true),
  (⟨some 24, .load 3 (.tmp 23), none⟩, true),
  (⟨some 25, .binOp .neq 3 (.tmp 20) (.tmp 24) 3, none⟩, true)] (fun a' h' => Q .normal a' h') a h) : AI Try.prog (.raw (.region id rg27_0 true)) Q a h :=
  AI_draw [(0, true), (1, true), (2, true), (3, true), (4, true), (5, true), (6, true), (7, true), (8, true)] m (by kernel_rfl) (by kernel_rfl) (by kernel_rfl) H

/-- laws.eqStep -/
def c116 : IC :=
  (.seq
  (.reg [
    ⟨some 2, .box 35 (.tmp 0), none⟩,
    ⟨some 3, .box 35 (.tmp 1), none⟩,
    ⟨some 4, .assign (.const (.bool false)), none⟩])
  (.seq
  (.seq
  (.reg [
    ⟨some 5, .fieldAddr 35 (.tmp 2) 0, none⟩,
    ⟨some 6, .load 3 (.tmp 5), none⟩,
    ⟨some 7, .fieldAddr 35 (.tmp 3) 0, none⟩,
    ⟨some 8, .load 3 (.tmp 7), none⟩,
    ⟨some 9, .binOp .neq 3 (.tmp 6) (.tmp 8) 3, none⟩])
  (.cond (.tmp 9)
    (.seq
    (.reg [
      ⟨some 4, .assign (.const (.bool false)), none⟩])
    .ret)
    .skip))
  (.seq
  (.seq
  (.reg [
    ⟨some 10, .fieldAddr 35 (.tmp 2) 1, none⟩,
    ⟨some 11, .load 3 (.tmp 10), none⟩,
    ⟨some 12, .fieldAddr 35 (.tmp 3) 1, none⟩,
    ⟨some 13, .load 3 (.tmp 12), none⟩,
    ⟨some 14, .binOp .neq 3 (.tmp 11) (.tmp 13) 3, none⟩])
  (.cond (.tmp 14)
    (.seq
    (.reg [
      ⟨some 4, .assign (.const (.bool false)), none⟩])
    .ret)
    .skip))
  (.seq
  (.reg [
    ⟨some 4, .assign (.const (.bool true)), none⟩])
  .ret))))
theorem hd116 : Try.f116.body.map dec = some c116 := by kernel_rfl
theorem e116 {R : AV → AH → Prop} {h : AH} (x0 x1 : AV) (H : h.wf → AI Try.prog c116 (RetQ Try.prog [.tmp 4] R) [x0, x1, un, un, un, un, un, un, un, un, un, un, un, un, un] h) : AC Try.prog 116 [x0, x1] h R :=
  AC_of' (rs := [.tmp 4]) Try.func116 (by kernel_rfl) hd116 Try.ntmps116 rfl H

noncomputable def rg66_0 : Array Oper := rawAt Try.f66 0
/-- laws.eqStepS -/
noncomputable def c66 : IC :=
  (.seq
  (.reg [
    ⟨some 4, .assign (.const (.bool false)), none⟩])
  (.seq
  (.seq
  (.reg [
    ⟨some 6, .move (.tmp 0), none⟩,
    ⟨some 7, .call { callee := .builtin .len, args := #[.tmp 6], argTypes := #[24] }, none⟩,
    ⟨some 8, .move (.tmp 1), none⟩,
    ⟨some 9, .call { callee := .builtin .len, args := #[.tmp 8], argTypes := #[24] }, none⟩,
    ⟨some 10, .binOp .neq 3 (.tmp 7) (.tmp 9) 3, none⟩])
  (.cond (.tmp 10)
    (.seq
    (.reg [
      ⟨some 4, .assign (.const (.bool false)), none⟩])
    .ret)
    .skip))
  (.seq
  (.seq
  (.reg [
    ⟨some 5, .assign (.const (.int .i64 0)), none⟩])
  (.block 0
  (.loop
    (.seq
    (.seq
    (.reg [
      ⟨some 11, .move (.tmp 5), none⟩,
      ⟨some 12, .move (.tmp 0), none⟩,
      ⟨some 13, .call { callee := .builtin .len, args := #[.tmp 12], argTypes := #[24] }, none⟩,
      ⟨some 14, .binOp .lss 3 (.tmp 11) (.tmp 13) 3, none⟩])
    (.cond (.tmp 14)
      .skip
      (.exit 0)))
    (.seq
    (.block 1
    (.seq
    (.raw (.region 6 rg66_0 true))
    (.cond (.tmp 26)
      (.seq
      (.reg [
        ⟨some 4, .assign (.const (.bool false)), none⟩])
      .ret)
      .skip)))
    (.reg [
      ⟨some 15, .move (.tmp 5), none⟩,
      ⟨some 16, .binOp .add 3 (.tmp 15) (.const (.int .i64 1)) 3, none⟩,
      ⟨some 5, .assign (.tmp 16), none⟩]))))))
  (.seq
  (.reg [
    ⟨some 4, .assign (.const (.bool true)), none⟩])
  .ret))))
theorem hd66 : Try.f66.body.map dec = some c66 := by kernel_rfl
theorem e66 {R : AV → AH → Prop} {h : AH} (x0 x1 : AV) (H : h.wf → AI Try.prog c66 (RetQ Try.prog [.tmp 4] R) [x0, x1, un, un, un, un, un, un, un, un, un, un, un, un, un, un, un, un, un, un, un, un, un, un, un, un, un] h) : AC Try.prog 66 [x0, x1] h R :=
  AC_of' (rs := [.tmp 4]) Try.func66 (by kernel_rfl) hd66 Try.ntmps66 rfl H
theorem dz66_0 {h0 : AH} {L : List It} {Q : Exit → List AV → List It → Prop} {a : List AV} {id : Nat} (H : LX Try.prog ⟨[], []⟩ h0 L L (.c (⟨some 17, .move (.tmp 0), none⟩, .p) <| .c (⟨some 18, .move (.tmp 5), none⟩, .p) <| .c (⟨some 19, .indexAddr 24 (.tmp 17) (.tmp 18), none⟩, .p) <| .c (⟨some 20, .load 35 (.tmp 19), none⟩, .l) <| .c (⟨some 21, .move (.tmp 1), none⟩, .p) <| .c (⟨some 22, .move (.tmp 5), none⟩, .p) <| .c (⟨some 23, .indexAddr 24 (.tmp 21) (.tmp 22), none⟩, .p) <| .c (⟨some 24, .load 35 (.tmp 23), none⟩, .l) <| .c (⟨some 25, .call { callee := .value (.func 116), args := #[.tmp 20, .tmp 24], argTypes := #[35, 35] }, none⟩, .e) <| .c (⟨some 26, .unOp .not 4 (.tmp 25), none⟩, .p) <| .n) Q a) : LI Try.prog h0 L (.raw (.region id rg66_0 true)) Q a :=
  LI_draw (.c (0, .p) <| .c (1, .p) <| .c (2, .p) <| .c (3, .l) <| .c (4, .p) <| .c (5, .p) <| .c (6, .p) <| .c (7, .l) <| .c (8, .e) <| .c (9, .p) <| .n) [] (by kernel_rfl) (by kernel_rfl) (by kernel_rfl) H
theorem dy66_0 {h0 : AH} {L : List It} {Q : Exit → List AV → List It → Prop} {a : List AV} {id : Nat} (H : LX Try.prog ⟨[8], []⟩ h0 L L (.c (⟨some 17, .move (.tmp 0), none⟩, .p) <| .c (⟨some 18, .move (.tmp 5), none⟩, .p) <| .c (⟨some 19, .indexAddr 24 (.tmp 17) (.tmp 18), none⟩, .p) <| .c (⟨some 20, .load 35 (.tmp 19), none⟩, .l) <| .c (⟨some 21, .move (.tmp 1), none⟩, .p) <| .c (⟨some 22, .move (.tmp 5), none⟩, .p) <| .c (⟨some 23, .indexAddr 24 (.tmp 21) (.tmp 22), none⟩, .p) <| .c (⟨some 24, .load 35 (.tmp 23), none⟩, .l) <| .c (⟨some 25, .call { callee := .value (.func 116), args := #[.tmp 20, .tmp 24], argTypes := #[35, 35] }, none⟩, .f) <| .c (⟨some 26, .unOp .not 4 (.tmp 25), none⟩, .p) <| .n) Q a) : LI Try.prog h0 L (.raw (.region id rg66_0 true)) Q a :=
  LI_draw (.c (0, .p) <| .c (1, .p) <| .c (2, .p) <| .c (3, .l) <| .c (4, .p) <| .c (5, .p) <| .c (6, .p) <| .c (7, .l) <| .c (8, .f) <| .c (9, .p) <| .n) [8] (by kernel_rfl) (by kernel_rfl) (by kernel_rfl) H
theorem dr66_0 (m : Nat) {Q : Exit → List AV → AH → Prop} {a : List AV} {h : AH} {id : Nat} (H : AX Try.prog m h [(⟨some 17, .move (.tmp 0), none⟩, true),
  (⟨some 18, .move (.tmp 5), none⟩, true),
  (⟨some 19, .indexAddr 24 (.tmp 17) (.tmp 18), none⟩, true),
  (⟨some 20, .load 35 (.tmp 19), none⟩, true),
  (⟨some 21, .move (.tmp 1), none⟩, true),
  (⟨some 22, .move (.tmp 5), none⟩, true),
  (⟨some 23, .indexAddr 24 (.tmp 21) (.tmp 22), none⟩, true),
  (⟨some 24, .load 35 (.tmp 23), none⟩, true),
  (⟨some 25, .call { callee := .value (.func 116), args := #[.tmp 20, .tmp 24], argTypes := #[35, 35] }, none⟩, false),
  (⟨some 26, .unOp .not 4 (.tmp 25), none⟩, true)] (fun a' h' => Q .normal a' h') a h) : AI Try.prog (.raw (.region id rg66_0 true)) Q a h :=
  AI_draw [(0, true), (1, true), (2, true), (3, true), (4, true), (5, true), (6, true), (7, true), (8, false), (9, true)] m (by kernel_rfl) (by kernel_rfl) (by kernel_rfl) H

/-- laws.eqPlan -/
def c22 : IC :=
  (.seq
  (.reg [
    ⟨some 2, .box 27 (.tmp 0), none⟩,
    ⟨some 3, .box 27 (.tmp 1), none⟩,
    ⟨some 4, .assign (.const (.bool false)), none⟩])
  (.seq
  (.seq
  (.reg [
    ⟨some 5, .fieldAddr 27 (.tmp 2) 0, none⟩,
    ⟨some 6, .load 3 (.tmp 5), none⟩,
    ⟨some 7, .fieldAddr 27 (.tmp 3) 0, none⟩,
    ⟨some 8, .load 3 (.tmp 7), none⟩,
    ⟨some 9, .binOp .neq 3 (.tmp 6) (.tmp 8) 3, none⟩])
  (.cond (.tmp 9)
    (.seq
    (.reg [
      ⟨some 4, .assign (.const (.bool false)), none⟩])
    .ret)
    .skip))
  (.seq
  (.seq
  (.reg [
    ⟨some 10, .fieldAddr 27 (.tmp 2) 1, none⟩,
    ⟨some 11, .load 24 (.tmp 10), none⟩,
    ⟨some 12, .fieldAddr 27 (.tmp 3) 1, none⟩,
    ⟨some 13, .load 24 (.tmp 12), none⟩,
    ⟨some 14, .call { callee := .value (.func 66), args := #[.tmp 11, .tmp 13], argTypes := #[24, 24] }, none⟩,
    ⟨some 15, .unOp .not 4 (.tmp 14), none⟩])
  (.cond (.tmp 15)
    (.seq
    (.reg [
      ⟨some 4, .assign (.const (.bool false)), none⟩])
    .ret)
    .skip))
  (.seq
  (.seq
  (.reg [
    ⟨some 16, .fieldAddr 27 (.tmp 2) 2, none⟩,
    ⟨some 17, .load 25 (.tmp 16), none⟩,
    ⟨some 18, .fieldAddr 27 (.tmp 3) 2, none⟩,
    ⟨some 19, .load 25 (.tmp 18), none⟩,
    ⟨some 20, .call { callee := .value (.func 27), args := #[.tmp 17, .tmp 19], argTypes := #[25, 25] }, none⟩,
    ⟨some 21, .unOp .not 4 (.tmp 20), none⟩])
  (.cond (.tmp 21)
    (.seq
    (.reg [
      ⟨some 4, .assign (.const (.bool false)), none⟩])
    .ret)
    .skip))
  (.seq
  (.reg [
    ⟨some 4, .assign (.const (.bool true)), none⟩])
  .ret)))))
theorem hd22 : Try.f22.body.map dec = some c22 := by kernel_rfl
theorem e22 {R : AV → AH → Prop} {h : AH} (x0 x1 : AV) (H : h.wf → AI Try.prog c22 (RetQ Try.prog [.tmp 4] R) [x0, x1, un, un, un, un, un, un, un, un, un, un, un, un, un, un, un, un, un, un, un, un] h) : AC Try.prog 22 [x0, x1] h R :=
  AC_of' (rs := [.tmp 4]) Try.func22 (by kernel_rfl) hd22 Try.ntmps22 rfl H

/-- spec.l1In -/
def c60 : IC :=
  (.seq
  (.reg [
    ⟨some 6, .assign (.const (.bool false)), none⟩])
  (.seq
  (.reg [
    ⟨some 7, .move (.tmp 0), none⟩,
    ⟨some 8, .move (.tmp 1), none⟩,
    ⟨some 9, .binOp .geq 3 (.tmp 7) (.tmp 8) 3, none⟩,
    ⟨some 10, .move (.tmp 9), none⟩,
    ⟨some 11, .move (.tmp 0), some (10, true)⟩,
    ⟨some 12, .move (.tmp 2), some (10, true)⟩,
    ⟨some 13, .binOp .leq 3 (.tmp 11) (.tmp 12) 3, some (10, true)⟩,
    ⟨some 14, .pick (.tmp 10) (.tmp 13) (.const (.bool false)), none⟩,
    ⟨some 6, .assign (.tmp 14), none⟩])
  .ret))
theorem hd60 : Try.f60.body.map dec = some c60 := by kernel_rfl
theorem e60 {R : AV → AH → Prop} {h : AH} (x0 x1 x2 : AV) (H : h.wf → AI Try.prog c60 (RetQ Try.prog [.tmp 6] R) [x0, x1, x2, un, un, un, un, un, un, un, un, un, un, un, un] h) : AC Try.prog 60 [x0, x1, x2] h R :=
  AC_of' (rs := [.tmp 6]) Try.func60 (by kernel_rfl) hd60 Try.ntmps60 rfl H

/-- spec.l1All -/
def c81 : IC :=
  (.seq
  (.reg [
    ⟨some 6, .assign (.const (.bool false)), none⟩])
  (.seq
  (.seq
  (.reg [
    ⟨some 9, .move (.tmp 0), none⟩,
    ⟨some 10, .call { callee := .builtin .len, args := #[.tmp 9], argTypes := #[25] }, none⟩,
    ⟨some 11, .move (.const (.int .i64 0)), none⟩])
  (.block 0
  (.loop
    (.seq
    (.reg [
      ⟨some 12, .binOp .lss 3 (.tmp 11) (.tmp 10) 3, none⟩])
    (.seq
    (.cond (.tmp 12)
      .skip
      (.exit 0))
    (.seq
    (.block 1
    (.seq
    (.reg [
      ⟨some 13, .indexAddr 25 (.tmp 9) (.tmp 11), none⟩,
      ⟨some 14, .load 3 (.tmp 13), none⟩,
      ⟨some 8, .assign (.tmp 14), none⟩])
    (.seq
    (.reg [
      ⟨some 15, .move (.tmp 8), none⟩,
      ⟨some 16, .move (.tmp 1), none⟩,
      ⟨some 17, .move (.tmp 2), none⟩,
      ⟨some 18, .call { callee := .value (.func 60), args := #[.tmp 15, .tmp 16, .tmp 17], argTypes := #[3, 3, 3] }, none⟩,
      ⟨some 19, .unOp .not 4 (.tmp 18), none⟩])
    (.cond (.tmp 19)
      (.seq
      (.reg [
        ⟨some 6, .assign (.const (.bool false)), none⟩])
      .ret)
      .skip))))
    (.reg [
      ⟨some 20, .binOp .add 3 (.tmp 11) (.const (.int .i64 1)) 3, none⟩,
      ⟨some 11, .move (.tmp 20), none⟩])))))))
  (.seq
  (.reg [
    ⟨some 6, .assign (.const (.bool true)), none⟩])
  .ret)))
theorem hd81 : Try.f81.body.map dec = some c81 := by kernel_rfl
theorem e81 {R : AV → AH → Prop} {h : AH} (x0 x1 x2 : AV) (H : h.wf → AI Try.prog c81 (RetQ Try.prog [.tmp 6] R) [x0, x1, x2, un, un, un, un, un, un, un, un, un, un, un, un, un, un, un, un, un, un] h) : AC Try.prog 81 [x0, x1, x2] h R :=
  AC_of' (rs := [.tmp 6]) Try.func81 (by kernel_rfl) hd81 Try.ntmps81 rfl H

/-- spec.l1Least -/
def c134 : IC :=
  (.seq
  (.reg [
    ⟨some 4, .assign (.const (.int .i64 0)), none⟩])
  (.seq
  (.seq
  (.reg [
    ⟨some 5, .move (.tmp 0), none⟩,
    ⟨some 6, .move (.tmp 1), none⟩,
    ⟨some 7, .binOp .lss 3 (.tmp 5) (.tmp 6) 3, none⟩])
  (.cond (.tmp 7)
    (.seq
    (.reg [
      ⟨some 8, .move (.tmp 0), none⟩,
      ⟨some 4, .assign (.tmp 8), none⟩])
    .ret)
    .skip))
  (.seq
  (.reg [
    ⟨some 9, .move (.tmp 1), none⟩,
    ⟨some 4, .assign (.tmp 9), none⟩])
  .ret)))
theorem hd134 : Try.f134.body.map dec = some c134 := by kernel_rfl
theorem e134 {R : AV → AH → Prop} {h : AH} (x0 x1 : AV) (H : h.wf → AI Try.prog c134 (RetQ Try.prog [.tmp 4] R) [x0, x1, un, un, un, un, un, un, un, un] h) : AC Try.prog 134 [x0, x1] h R :=
  AC_of' (rs := [.tmp 4]) Try.func134 (by kernel_rfl) hd134 Try.ntmps134 rfl H

noncomputable def rg137_0 : Array Oper := rawAt Try.f137 0
/-- spec.plSum -/
noncomputable def c137 : IC :=
  (.seq
  (.reg [
    ⟨some 4, .assign (.const (.slice none 0 0)), none⟩])
  (.seq
  (.reg [
    ⟨some 5, .assign (.const (.slice none 0 0)), none⟩])
  (.seq
  (.seq
  (.reg [
    ⟨some 7, .move (.tmp 0), none⟩,
    ⟨some 8, .call { callee := .builtin .len, args := #[.tmp 7], argTypes := #[25] }, none⟩,
    ⟨some 9, .move (.const (.int .i64 0)), none⟩])
  (.block 0
  (.loop
    (.seq
    (.reg [
      ⟨some 10, .binOp .lss 3 (.tmp 9) (.tmp 8) 3, none⟩])
    (.seq
    (.cond (.tmp 10)
      .skip
      (.exit 0))
    (.seq
    (.block 1
    (.seq
    (.reg [
      ⟨some 11, .move (.tmp 9), none⟩,
      ⟨some 6, .assign (.tmp 11), none⟩])
    (.raw (.region 5 rg137_0 true))))
    (.reg [
      ⟨some 25, .binOp .add 3 (.tmp 9) (.const (.int .i64 1)) 3, none⟩,
      ⟨some 9, .move (.tmp 25), none⟩])))))))
  (.seq
  (.reg [
    ⟨some 26, .move (.tmp 5), none⟩,
    ⟨some 4, .assign (.tmp 26), none⟩])
  .ret))))
theorem hd137 : Try.f137.body.map dec = some c137 := by kernel_rfl
theorem e137 {R : AV → AH → Prop} {h : AH} (x0 x1 : AV) (H : h.wf → AI Try.prog c137 (RetQ Try.prog [.tmp 4] R) [x0, x1, un, un, un, un, un, un, un, un, un, un, un, un, un, un, un, un, un, un, un, un, un, un, un, un, un] h) : AC Try.prog 137 [x0, x1] h R :=
  AC_of' (rs := [.tmp 4]) Try.func137 (by kernel_rfl) hd137 Try.ntmps137 rfl H
theorem dz137_0 {h0 : AH} {L : List It} {Q : Exit → List AV → List It → Prop} {a : List AV} {id : Nat} (H : LX Try.prog ⟨[12], []⟩ h0 L L (.c (⟨some 12, .move (.tmp 5), none⟩, .p) <| .c (⟨some 13, .move (.tmp 0), none⟩, .p) <| .c (⟨some 14, .move (.tmp 6), none⟩, .p) <| .c (⟨some 15, .indexAddr 25 (.tmp 13) (.tmp 14), none⟩, .p) <| .c (⟨some 16, .load 3 (.tmp 15), none⟩, .l) <| .c (⟨some 17, .move (.tmp 1), none⟩, .p) <| .c (⟨some 18, .move (.tmp 6), none⟩, .p) <| .c (⟨some 19, .indexAddr 25 (.tmp 17) (.tmp 18), none⟩, .p) <| .c (⟨some 20, .load 3 (.tmp 19), none⟩, .l) <| .c (⟨some 21, .binOp .add 3 (.tmp 16) (.tmp 20) 3, none⟩, .p) <| .c (⟨some 22, .call { callee := .value (.func 134), args := #[.tmp 21, .const (.int .i64 1000001)], argTypes := #[3, 3] }, none⟩, .e) <| .c (⟨some 23, .buildSlice 25 1 #[(0, .tmp 22)], none⟩, .e) <| .c (⟨some 24, .call { callee := .builtin .append, args := #[.tmp 12, .tmp 23], argTypes := #[25, 25] }, none⟩, .f) <| .c (⟨some 5, .assign (.tmp 24), none⟩, .p) <| .n) Q a) : LI Try.prog h0 L (.raw (.region id rg137_0 true)) Q a :=
  LI_draw (.c (0, .p) <| .c (1, .p) <| .c (2, .p) <| .c (3, .p) <| .c (4, .l) <| .c (5, .p) <| .c (6, .p) <| .c (7, .p) <| .c (8, .l) <| .c (9, .p) <| .c (10, .e) <| .c (11, .e) <| .c (12, .f) <| .c (13, .p) <| .n) [12] (by kernel_rfl) (by kernel_rfl) (by kernel_rfl) H
theorem dy137_0 {h0 : AH} {L : List It} {Q : Exit → List AV → List It → Prop} {a : List AV} {id : Nat} (H : LX Try.prog ⟨[10, 11, 12], []⟩ h0 L L (.c (⟨some 12, .move (.tmp 5), none⟩, .p) <| .c (⟨some 13, .move (.tmp 0), none⟩, .p) <| .c (⟨some 14, .move (.tmp 6), none⟩, .p) <| .c (⟨some 15, .indexAddr 25 (.tmp 13) (.tmp 14), none⟩, .p) <| .c (⟨some 16, .load 3 (.tmp 15), none⟩, .l) <| .c (⟨some 17, .move (.tmp 1), none⟩, .p) <| .c (⟨some 18, .move (.tmp 6), none⟩, .p) <| .c (⟨some 19, .indexAddr 25 (.tmp 17) (.tmp 18), none⟩, .p) <| .c (⟨some 20, .load 3 (.tmp 19), none⟩, .l) <| .c (⟨some 21, .binOp .add 3 (.tmp 16) (.tmp 20) 3, none⟩, .p) <| .c (⟨some 22, .call { callee := .value (.func 134), args := #[.tmp 21, .const (.int .i64 1000001)], argTypes := #[3, 3] }, none⟩, .f) <| .c (⟨some 23, .buildSlice 25 1 #[(0, .tmp 22)], none⟩, .f) <| .c (⟨some 24, .call { callee := .builtin .append, args := #[.tmp 12, .tmp 23], argTypes := #[25, 25] }, none⟩, .f) <| .c (⟨some 5, .assign (.tmp 24), none⟩, .p) <| .n) Q a) : LI Try.prog h0 L (.raw (.region id rg137_0 true)) Q a :=
  LI_draw (.c (0, .p) <| .c (1, .p) <| .c (2, .p) <| .c (3, .p) <| .c (4, .l) <| .c (5, .p) <| .c (6, .p) <| .c (7, .p) <| .c (8, .l) <| .c (9, .p) <| .c (10, .f) <| .c (11, .f) <| .c (12, .f) <| .c (13, .p) <| .n) [10, 11, 12] (by kernel_rfl) (by kernel_rfl) (by kernel_rfl) H
theorem dr137_0 (m : Nat) {Q : Exit → List AV → AH → Prop} {a : List AV} {h : AH} {id : Nat} (H : AX Try.prog m h [(⟨some 12, .move (.tmp 5), none⟩, true),
  (⟨some 13, .move (.tmp 0), none⟩, true),
  (⟨some 14, .move (.tmp 6), none⟩, true),
  (⟨some 15, .indexAddr 25 (.tmp 13) (.tmp 14), none⟩, true),
  (⟨some 16, .load 3 (.tmp 15), none⟩, true),
  (⟨some 17, .move (.tmp 1), none⟩, true),
  (⟨some 18, .move (.tmp 6), none⟩, true),
  (⟨some 19, .indexAddr 25 (.tmp 17) (.tmp 18), none⟩, true),
  (⟨some 20, .load 3 (.tmp 19), none⟩, true),
  (⟨some 21, .binOp .add 3 (.tmp 16) (.tmp 20) 3, none⟩, true),
  (⟨some 22, .call { callee := .value (.func 134), args := #[.tmp 21, .const (.int .i64 1000001)], argTypes := #[3, 3] }, none⟩, false),
  (⟨some 23, .buildSlice 25 1 #[(0, .tmp 22)], none⟩, false),
  (⟨some 24, .call { callee := .builtin .append, args := #[.tmp 12, .tmp 23], argTypes := #[25, 25] }, none⟩, false),
  (⟨some 5, .assign (.tmp 24), none⟩, true)] (fun a' h' => Q .normal a' h') a h) : AI Try.prog (.raw (.region id rg137_0 true)) Q a h :=
  AI_draw [(0, true), (1, true), (2, true), (3, true), (4, true), (5, true), (6, true), (7, true), (8, true), (9, true), (10, false), (11, false), (12, false), (13, true)] m (by kernel_rfl) (by kernel_rfl) (by kernel_rfl) H

noncomputable def rg114_0 : Array Oper := rawAt Try.f114 0
/-- spec.plExponents -/
noncomputable def c114 : IC :=
  (.seq
  (.reg [
    ⟨some 1, .box 27 (.tmp 0), none⟩,
    ⟨some 2, .assign (.const (.slice none 0 0)), none⟩])
  (.seq
  (.reg [
    ⟨some 3, .assign (.const (.slice none 0 0)), none⟩])
  (.seq
  (.seq
  (.reg [
    ⟨some 4, .assign (.const (.int .i64 0)), none⟩])
  (.block 0
  (.loop
    (.seq
    (.seq
    (.reg [
      ⟨some 8, .move (.tmp 4), none⟩,
      ⟨some 9, .fieldAddr 27 (.tmp 1) 0, none⟩,
      ⟨some 10, .load 3 (.tmp 9), none⟩,
      ⟨some 11, .binOp .lss 3 (.tmp 8) (.tmp 10) 3, none⟩])
    (.cond (.tmp 11)
      .skip
      (.exit 0)))
    (.seq
    (.block 1
    (.seq
    (.reg [
      ⟨some 14, .fieldAddr 27 (.tmp 1) 0, none⟩,
      ⟨some 15, .load 3 (.tmp 14), none⟩,
      ⟨some 16, .makeSlice 25 (.tmp 15) (.tmp 15), none⟩,
      ⟨some 5, .assign (.tmp 16), none⟩])
    (.seq
    (.reg [
      ⟨some 17, .move (.tmp 5), none⟩,
      ⟨some 18, .move (.tmp 4), none⟩,
      ⟨some 19, .indexAddr 25 (.tmp 17) (.tmp 18), none⟩,
      ⟨none, .store 3 (.tmp 19) (.const (.int .i64 1)), none⟩])
    (.reg [
      ⟨some 20, .move (.tmp 3), none⟩,
      ⟨some 21, .move (.tmp 5), none⟩,
      ⟨some 22, .buildSlice 77 1 #[(0, .tmp 21)], none⟩,
      ⟨some 23, .call { callee := .builtin .append, args := #[.tmp 20, .tmp 22], argTypes := #[77, 77] }, none⟩,
      ⟨some 3, .assign (.tmp 23), none⟩]))))
    (.reg [
      ⟨some 12, .move (.tmp 4), none⟩,
      ⟨some 13, .binOp .add 3 (.tmp 12) (.const (.int .i64 1)) 3, none⟩,
      ⟨some 4, .assign (.tmp 13), none⟩]))))))
  (.seq
  (.seq
  (.reg [
    ⟨some 24, .fieldAddr 27 (.tmp 1) 1, none⟩,
    ⟨some 25, .load 24 (.tmp 24), none⟩,
    ⟨some 26, .call { callee := .builtin .len, args := #[.tmp 25], argTypes := #[24] }, none⟩,
    ⟨some 27, .move (.const (.int .i64 0)), none⟩])
  (.block 2
  (.loop
    (.seq
    (.reg [
      ⟨some 28, .binOp .lss 3 (.tmp 27) (.tmp 26) 3, none⟩])
    (.seq
    (.cond (.tmp 28)
      .skip
      (.exit 2))
    (.seq
    (.block 3
    (.seq
    (.reg [
      ⟨some 29, .indexAddr 24 (.tmp 25) (.tmp 27), none⟩,
      ⟨some 30, .load 35 (.tmp 29), none⟩,
      ⟨some 7, .alloc 35, none⟩,
      ⟨none, .store 35 (.tmp 7) (.tmp 30), none⟩])
    (.raw (.region 11 rg114_0 true))))
    (.reg [
      ⟨some 45, .binOp .add 3 (.tmp 27) (.const (.int .i64 1)) 3, none⟩,
      ⟨some 27, .move (.tmp 45), none⟩])))))))
  (.seq
  (.reg [
    ⟨some 46, .move (.tmp 3), none⟩,
    ⟨some 2, .assign (.tmp 46), none⟩])
  .ret)))))
theorem hd114 : Try.f114.body.map dec = some c114 := by kernel_rfl
theorem e114 {R : AV → AH → Prop} {h : AH} (x0 : AV) (H : h.wf → AI Try.prog c114 (RetQ Try.prog [.tmp 2] R) [x0, un, un, un, un, un, un, un, un, un, un, un, un, un, un, un, un, un, un, un, un, un, un, un, un, un, un, un, un, un, un, un, un, un, un, un, un, un, un, un, un, un, un, un, un, un, un] h) : AC Try.prog 114 [x0] h R :=
  AC_of' (rs := [.tmp 2]) Try.func114 (by kernel_rfl) hd114 Try.ntmps114 rfl H
theorem dz114_0 {h0 : AH} {L : List It} {Q : Exit → List AV → List It → Prop} {a : List AV} {id : Nat} (H : LX Try.prog ⟨[13], []⟩ h0 L L (.c (⟨some 31, .move (.tmp 3), none⟩, .p) <| .c (⟨some 32, .move (.tmp 3), none⟩, .p) <| .c (⟨some 33, .fieldAddr 35 (.tmp 7) 0, none⟩, .p) <| .c (⟨some 34, .load 3 (.tmp 33), none⟩, .l) <| .c (⟨some 35, .indexAddr 77 (.tmp 32) (.tmp 34), none⟩, .p) <| .c (⟨some 36, .load 25 (.tmp 35), none⟩, .l) <| .c (⟨some 37, .move (.tmp 3), none⟩, .p) <| .c (⟨some 38, .fieldAddr 35 (.tmp 7) 1, none⟩, .p) <| .c (⟨some 39, .load 3 (.tmp 38), none⟩, .l) <| .c (⟨some 40, .indexAddr 77 (.tmp 37) (.tmp 39), none⟩, .p) <| .c (⟨some 41, .load 25 (.tmp 40), none⟩, .l) <| .c (⟨some 42, .call { callee := .value (.func 137), args := #[.tmp 36, .tmp 41], argTypes := #[25, 25] }, none⟩, .e) <| .c (⟨some 43, .buildSlice 77 1 #[(0, .tmp 42)], none⟩, .e) <| .c (⟨some 44, .call { callee := .builtin .append, args := #[.tmp 31, .tmp 43], argTypes := #[77, 77] }, none⟩, .f) <| .c (⟨some 3, .assign (.tmp 44), none⟩, .p) <| .n) Q a) : LI Try.prog h0 L (.raw (.region id rg114_0 true)) Q a :=
  LI_draw (.c (0, .p) <| .c (1, .p) <| .c (2, .p) <| .c (3, .l) <| .c (4, .p) <| .c (5, .l) <| .c (6, .p) <| .c (7, .p) <| .c (8, .l) <| .c (9, .p) <| .c (10, .l) <| .c (11, .e) <| .c (12, .e) <| .c (13, .f) <| .c (14, .p) <| .n) [13] (by kernel_rfl) (by kernel_rfl) (by kernel_rfl) H
theorem dy114_0 {h0 : AH} {L : List It} {Q : Exit → List AV → List It → Prop} {a : List AV} {id : Nat} (H : LX Try.prog ⟨[11, 12, 13], []⟩ h0 L L (.c (⟨some 31, .move (.tmp 3), none⟩, .p) <| .c (⟨some 32, .move (.tmp 3), none⟩, .p) <| .c (⟨some 33, .fieldAddr 35 (.tmp 7) 0, none⟩, .p) <| .c (⟨some 34, .load 3 (.tmp 33), none⟩, .l) <| .c (⟨some 35, .indexAddr 77 (.tmp 32) (.tmp 34), none⟩, .p) <| .c (⟨some 36, .load 25 (.tmp 35), none⟩, .l) <| .c (⟨some 37, .move (.tmp 3), none⟩, .p) <| .c (⟨some 38, .fieldAddr 35 (.tmp 7) 1, none⟩, .p) <| .c (⟨some 39, .load 3 (.tmp 38), none⟩, .l) <| .c (⟨some 40, .indexAddr 77 (.tmp 37) (.tmp 39), none⟩, .p) <| .c (⟨some 41, .load 25 (.tmp 40), none⟩, .l) <| .c (⟨some 42, .call { callee := .value (.func 137), args := #[.tmp 36, .tmp 41], argTypes := #[25, 25] }, none⟩, .f) <| .c (⟨some 43, .buildSlice 77 1 #[(0, .tmp 42)], none⟩, .f) <| .c (⟨some 44, .call { callee := .builtin .append, args := #[.tmp 31, .tmp 43], argTypes := #[77, 77] }, none⟩, .f) <| .c (⟨some 3, .assign (.tmp 44), none⟩, .p) <| .n) Q a) : LI Try.prog h0 L (.raw (.region id rg114_0 true)) Q a :=
  LI_draw (.c (0, .p) <| .c (1, .p) <| .c (2, .p) <| .c (3, .l) <| .c (4, .p) <| .c (5, .l) <| .c (6, .p) <| .c (7, .p) <| .c (8, .l) <| .c (9, .p) <| .c (10, .l) <| .c (11, .f) <| .c (12, .f) <| .c (13, .f) <| .c (14, .p) <| .n) [11, 12, 13] (by kernel_rfl) (by kernel_rfl) (by kernel_rfl) H
theorem dr114_0 (m : Nat) {Q : Exit → List AV → AH → Prop} {a : List AV} {h : AH} {id : Nat} (H : AX Try.prog m h [(⟨some 31, .move (.tmp 3), none⟩, true),
  (⟨some 32, .move (.tmp 3), none⟩, true),
  (⟨some 33, .fieldAddr 35 (.tmp 7) 0, none⟩, true),
  (⟨some 34, .load 3 (.tmp 33), none⟩, true),
  (⟨some 35, .indexAddr 77 (.tmp 32) (.tmp 34), none⟩, true),
  (⟨some 36, .load 25 (.tmp 35), none⟩, true),
  (⟨some 37, .move (.tmp 3), none⟩, true),
  (⟨some 38, .fieldAddr 35 (.tmp 7) 1, none⟩, true),
  (⟨some 39, .load 3 (.tmp 38), none⟩, true),
  (⟨some 40, .indexAddr 77 (.tmp 37) (.tmp 39), none⟩, true),
  (⟨some 41, .load 25 (.tmp 40), none⟩, true),
  (⟨some 42, .call { callee := .value (.func 137), args := #[.tmp 36, .tmp 41], argTypes := #[25, 25] }, none⟩, false),
  (⟨some 43, .buildSlice 77 1 #[(0, .tmp 42)], none⟩, false),
  (⟨some 44, .call { callee := .builtin .append, args := #[.tmp 31, .tmp 43], argTypes := #[77, 77] }, none⟩, false),
  (⟨some 3, .assign (.tmp 44), none⟩, true)] (fun a' h' => Q .normal a' h') a h) : AI Try.prog (.raw (.region id rg114_0 true)) Q a h :=
  AI_draw [(0, true), (1, true), (2, true), (3, true), (4, true), (5, true), (6, true), (7, true), (8, true), (9, true), (10, true), (11, false), (12, false), (13, false), (14, true)] m (by kernel_rfl) (by kernel_rfl) (by kernel_rfl) H

/-- spec.plGood -/
def c59 : IC :=
  (.seq
  (.reg [
    ⟨some 1, .box 27 (.tmp 0), none⟩,
    ⟨some 2, .assign (.const (.bool false)), none⟩])
  (.seq
  (.seq
  (.reg [
    ⟨some 7, .fieldAddr 27 (.tmp 1) 0, none⟩,
    ⟨some 8, .load 3 (.tmp 7), none⟩,
    ⟨some 9, .call { callee := .value (.func 60), args := #[.tmp 8, .const (.int .i64 1), .const (.int .i64 6)], argTypes := #[3, 3, 3] }, none⟩,
    ⟨some 10, .unOp .not 4 (.tmp 9), none⟩,
    ⟨some 11, .move (.tmp 10), none⟩,
    ⟨some 12, .fieldAddr 27 (.tmp 1) 1, some (11, false)⟩,
    ⟨some 13, .load 24 (.tmp 12), some (11, false)⟩,
    ⟨some 14, .call { callee := .builtin .len, args := #[.tmp 13], argTypes := #[24] }, some (11, false)⟩,
    ⟨some 15, .binOp .gtr 3 (.tmp 14) (.const (.int .i64 40)) 3, some (11, false)⟩,
    ⟨some 16, .pick (.tmp 11) (.const (.bool true)) (.tmp 15), none⟩,
    ⟨some 17, .move (.tmp 16), none⟩,
    ⟨some 18, .fieldAddr 27 (.tmp 1) 2, some (17, false)⟩,
    ⟨some 19, .load 25 (.tmp 18), some (17, false)⟩,
    ⟨some 20, .call { callee := .builtin .len, args := #[.tmp 19], argTypes := #[25] }, some (17, false)⟩,
    ⟨some 21, .binOp .gtr 3 (.tmp 20) (.const (.int .i64 6)) 3, some (17, false)⟩,
    ⟨some 22, .pick (.tmp 17) (.const (.bool true)) (.tmp 21), none⟩])
  (.cond (.tmp 22)
    (.seq
    (.reg [
      ⟨some 2, .assign (.const (.bool false)), none⟩])
    .ret)
    .skip))
  (.seq
  (.seq
  (.reg [
    ⟨some 23, .fieldAddr 27 (.tmp 1) 1, none⟩,
    ⟨some 24, .load 24 (.tmp 23), none⟩,
    ⟨some 25, .call { callee := .builtin .len, args := #[.tmp 24], argTypes := #[24] }, none⟩,
    ⟨some 26, .move (.const (.int .i64 0)), none⟩])
  (.block 0
  (.loop
    (.seq
    (.reg [
      ⟨some 27, .binOp .lss 3 (.tmp 26) (.tmp 25) 3, none⟩])
    (.seq
    (.cond (.tmp 27)
      .skip
      (.exit 0))
    (.seq
    (.block 1
    (.seq
    (.reg [
      ⟨some 28, .move (.tmp 26), none⟩,
      ⟨some 29, .indexAddr 24 (.tmp 24) (.tmp 26), none⟩,
      ⟨some 30, .load 35 (.tmp 29), none⟩,
      ⟨some 4, .alloc 35, none⟩,
      ⟨some 3, .assign (.tmp 28), none⟩,
      ⟨none, .store 35 (.tmp 4) (.tmp 30), none⟩])
    (.seq
    (.reg [
      ⟨some 31, .fieldAddr 35 (.tmp 4) 0, none⟩,
      ⟨some 32, .load 3 (.tmp 31), none⟩,
      ⟨some 33, .fieldAddr 35 (.tmp 4) 1, none⟩,
      ⟨some 34, .load 3 (.tmp 33), none⟩,
      ⟨some 35, .call { callee := .value (.func 60), args := #[.tmp 32, .const (.int .i64 0), .tmp 34], argTypes := #[3, 3, 3] }, none⟩,
      ⟨some 36, .unOp .not 4 (.tmp 35), none⟩,
      ⟨some 37, .move (.tmp 36), none⟩,
      ⟨some 38, .fieldAddr 35 (.tmp 4) 1, some (37, false)⟩,
      ⟨some 39, .load 3 (.tmp 38), some (37, false)⟩,
      ⟨some 40, .fieldAddr 27 (.tmp 1) 0, some (37, false)⟩,
      ⟨some 41, .load 3 (.tmp 40), some (37, false)⟩,
      ⟨some 42, .move (.tmp 3), some (37, false)⟩,
      ⟨some 43, .binOp .add 3 (.tmp 41) (.tmp 42) 3, some (37, false)⟩,
      ⟨some 44, .binOp .geq 3 (.tmp 39) (.tmp 43) 3, some (37, false)⟩,
      ⟨some 45, .pick (.tmp 37) (.const (.bool true)) (.tmp 44), none⟩])
    (.cond (.tmp 45)
      (.seq
      (.reg [
        ⟨some 2, .assign (.const (.bool false)), none⟩])
      .ret)
      .skip))))
    (.reg [
      ⟨some 46, .binOp .add 3 (.tmp 26) (.const (.int .i64 1)) 3, none⟩,
      ⟨some 26, .move (.tmp 46), none⟩])))))))
  (.seq
  (.seq
  (.reg [
    ⟨some 47, .load 27 (.tmp 1), none⟩,
    ⟨some 48, .call { callee := .value (.func 114), args := #[.tmp 47], argTypes := #[27] }, none⟩,
    ⟨some 49, .call { callee := .builtin .len, args := #[.tmp 48], argTypes := #[77] }, none⟩,
    ⟨some 50, .move (.const (.int .i64 0)), none⟩])
  (.block 2
  (.loop
    (.seq
    (.reg [
      ⟨some 51, .binOp .lss 3 (.tmp 50) (.tmp 49) 3, none⟩])
    (.seq
    (.cond (.tmp 51)
      .skip
      (.exit 2))
    (.seq
    (.block 3
    (.seq
    (.reg [
      ⟨some 52, .indexAddr 77 (.tmp 48) (.tmp 50), none⟩,
      ⟨some 53, .load 25 (.tmp 52), none⟩,
      ⟨some 6, .assign (.tmp 53), none⟩])
    (.seq
    (.reg [
      ⟨some 54, .move (.tmp 6), none⟩,
      ⟨some 55, .call { callee := .value (.func 81), args := #[.tmp 54, .const (.int .i64 0), .const (.int .i64 1000000)], argTypes := #[25, 3, 3] }, none⟩,
      ⟨some 56, .unOp .not 4 (.tmp 55), none⟩])
    (.cond (.tmp 56)
      (.seq
      (.reg [
        ⟨some 2, .assign (.const (.bool false)), none⟩])
      .ret)
      .skip))))
    (.reg [
      ⟨some 57, .binOp .add 3 (.tmp 50) (.const (.int .i64 1)) 3, none⟩,
      ⟨some 50, .move (.tmp 57), none⟩])))))))
  (.seq
  (.reg [
    ⟨some 58, .fieldAddr 27 (.tmp 1) 2, none⟩,
    ⟨some 59, .load 25 (.tmp 58), none⟩,
    ⟨some 60, .fieldAddr 27 (.tmp 1) 0, none⟩,
    ⟨some 61, .load 3 (.tmp 60), none⟩,
    ⟨some 62, .fieldAddr 27 (.tmp 1) 1, none⟩,
    ⟨some 63, .load 24 (.tmp 62), none⟩,
    ⟨some 64, .call { callee := .builtin .len, args := #[.tmp 63], argTypes := #[24] }, none⟩,
    ⟨some 65, .binOp .add 3 (.tmp 61) (.tmp 64) 3, none⟩,
    ⟨some 66, .binOp .sub 3 (.tmp 65) (.const (.int .i64 1)) 3, none⟩,
    ⟨some 67, .call { callee := .value (.func 81), args := #[.tmp 59, .const (.int .i64 0), .tmp 66], argTypes := #[25, 3, 3] }, none⟩,
    ⟨some 2, .assign (.tmp 67), none⟩])
  .ret)))))
theorem hd59 : Try.f59.body.map dec = some c59 := by kernel_rfl
theorem e59 {R : AV → AH → Prop} {h : AH} (x0 : AV) (H : h.wf → AI Try.prog c59 (RetQ Try.prog [.tmp 2] R) [x0, un, un, un, un, un, un, un, un, un, un, un, un, un, un, un, un, un, un, un, un, un, un, un, un, un, un, un, un, un, un, un, un, un, un, un, un, un, un, un, un, un, un, un, un, un, un, un, un, un, un, un, un, un, un, un, un, un, un, un, un, un, un, un, un, un, un, un] h) : AC Try.prog 59 [x0] h R :=
  AC_of' (rs := [.tmp 2]) Try.func59 (by kernel_rfl) hd59 Try.ntmps59 rfl H

/-- spec.reFew -/
def c88 : IC :=
  (.seq
  (.reg [
    ⟨some 1, .box 27 (.tmp 0), none⟩,
    ⟨some 2, .assign (.const (.bool false)), none⟩])
  (.seq
  (.reg [
    ⟨some 3, .load 27 (.tmp 1), none⟩,
    ⟨some 4, .call { callee := .value (.func 59), args := #[.tmp 3], argTypes := #[27] }, none⟩,
    ⟨some 5, .move (.tmp 4), none⟩,
    ⟨some 6, .fieldAddr 27 (.tmp 1) 1, some (5, true)⟩,
    ⟨some 7, .load 24 (.tmp 6), some (5, true)⟩,
    ⟨some 8, .call { callee := .builtin .len, args := #[.tmp 7], argTypes := #[24] }, some (5, true)⟩,
    ⟨some 9, .binOp .leq 3 (.tmp 8) (.const (.int .i64 8)) 3, some (5, true)⟩,
    ⟨some 10, .pick (.tmp 5) (.tmp 9) (.const (.bool false)), none⟩,
    ⟨some 2, .assign (.tmp 10), none⟩])
  .ret))
theorem hd88 : Try.f88.body.map dec = some c88 := by kernel_rfl
theorem e88 {R : AV → AH → Prop} {h : AH} (x0 : AV) (H : h.wf → AI Try.prog c88 (RetQ Try.prog [.tmp 2] R) [x0, un, un, un, un, un, un, un, un, un, un] h) : AC Try.prog 88 [x0] h R :=
  AC_of' (rs := [.tmp 2]) Try.func88 (by kernel_rfl) hd88 Try.ntmps88 rfl H

/-- spec.l1Own -/
def c82 : IC :=
  (.seq
  (.reg [
    ⟨some 2, .assign (.const (.slice none 0 0)), none⟩])
  (.seq
  (.reg [
    ⟨some 3, .buildSlice 25 0 #[], none⟩,
    ⟨some 4, .move (.tmp 0), none⟩,
    ⟨some 5, .call { callee := .builtin .append, args := #[.tmp 3, .tmp 4], argTypes := #[25, 25] }, none⟩,
    ⟨some 2, .assign (.tmp 5), none⟩])
  .ret))
theorem hd82 : Try.f82.body.map dec = some c82 := by kernel_rfl
theorem e82 {R : AV → AH → Prop} {h : AH} (x0 : AV) (H : h.wf → AI Try.prog c82 (RetQ Try.prog [.tmp 2] R) [x0, un, un, un, un, un] h) : AC Try.prog 82 [x0] h R :=
  AC_of' (rs := [.tmp 2]) Try.func82 (by kernel_rfl) hd82 Try.ntmps82 rfl H

/-- spec.l1Has -/
def c117 : IC :=
  (.seq
  (.reg [
    ⟨some 4, .assign (.const (.bool false)), none⟩])
  (.seq
  (.seq
  (.reg [
    ⟨some 7, .move (.tmp 0), none⟩,
    ⟨some 8, .call { callee := .builtin .len, args := #[.tmp 7], argTypes := #[25] }, none⟩,
    ⟨some 9, .move (.const (.int .i64 0)), none⟩])
  (.block 0
  (.loop
    (.seq
    (.reg [
      ⟨some 10, .binOp .lss 3 (.tmp 9) (.tmp 8) 3, none⟩])
    (.seq
    (.cond (.tmp 10)
      .skip
      (.exit 0))
    (.seq
    (.block 1
    (.seq
    (.reg [
      ⟨some 11, .indexAddr 25 (.tmp 7) (.tmp 9), none⟩,
      ⟨some 12, .load 3 (.tmp 11), none⟩,
      ⟨some 6, .assign (.tmp 12), none⟩])
    (.seq
    (.reg [
      ⟨some 13, .move (.tmp 6), none⟩,
      ⟨some 14, .move (.tmp 1), none⟩,
      ⟨some 15, .binOp .eql 3 (.tmp 13) (.tmp 14) 3, none⟩])
    (.cond (.tmp 15)
      (.seq
      (.reg [
        ⟨some 4, .assign (.const (.bool true)), none⟩])
      .ret)
      .skip))))
    (.reg [
      ⟨some 16, .binOp .add 3 (.tmp 9) (.const (.int .i64 1)) 3, none⟩,
      ⟨some 9, .move (.tmp 16), none⟩])))))))
  (.seq
  (.reg [
    ⟨some 4, .assign (.const (.bool false)), none⟩])
  .ret)))
theorem hd117 : Try.f117.body.map dec = some c117 := by kernel_rfl
theorem e117 {R : AV → AH → Prop} {h : AH} (x0 x1 : AV) (H : h.wf → AI Try.prog c117 (RetQ Try.prog [.tmp 4] R) [x0, x1, un, un, un, un, un, un, un, un, un, un, un, un, un, un, un] h) : AC Try.prog 117 [x0, x1] h R :=
  AC_of' (rs := [.tmp 4]) Try.func117 (by kernel_rfl) hd117 Try.ntmps117 rfl H

noncomputable def rg89_0 : Array Oper := rawAt Try.f89 0
-- NO ORDER
/-- spec.reOrders -/
noncomputable def c89 : IC :=
  (.seq
  (.reg [
    ⟨some 2, .box 27 (.tmp 0), none⟩,
    ⟨some 4, .assign (.const (.slice none 0 0)), none⟩])
  (.seq
  (.seq
  (.reg [
    ⟨some 8, .move (.tmp 1), none⟩,
    ⟨some 9, .call { callee := .builtin .len, args := #[.tmp 8], argTypes := #[25] }, none⟩,
    ⟨some 10, .fieldAddr 27 (.tmp 2) 1, none⟩,
    ⟨some 11, .load 24 (.tmp 10), none⟩,
    ⟨some 12, .call { callee := .builtin .len, args := #[.tmp 11], argTypes := #[24] }, none⟩,
    ⟨some 13, .binOp .eql 3 (.tmp 9) (.tmp 12) 3, none⟩])
  (.cond (.tmp 13)
    (.seq
    (.reg [
      ⟨some 14, .move (.tmp 1), none⟩,
      ⟨some 15, .call { callee := .value (.func 82), args := #[.tmp 14], argTypes := #[25] }, none⟩,
      ⟨some 16, .buildSlice 77 1 #[(0, .tmp 15)], none⟩,
      ⟨some 4, .assign (.tmp 16), none⟩])
    .ret)
    .skip))
  (.seq
  (.reg [
    ⟨some 5, .assign (.const (.slice none 0 0)), none⟩])
  (.seq
  (.seq
  (.reg [
    ⟨some 17, .fieldAddr 27 (.tmp 2) 1, none⟩,
    ⟨some 18, .load 24 (.tmp 17), none⟩,
    ⟨some 19, .call { callee := .builtin .len, args := #[.tmp 18], argTypes := #[24] }, none⟩,
    ⟨some 20, .move (.const (.int .i64 0)), none⟩])
  (.block 0
  (.loop
    (.seq
    (.reg [
      ⟨some 21, .binOp .lss 3 (.tmp 20) (.tmp 19) 3, none⟩])
    (.seq
    (.cond (.tmp 21)
      .skip
      (.exit 0))
    (.seq
    (.block 1
    (.seq
    (.reg [
      ⟨some 22, .move (.tmp 20), none⟩,
      ⟨some 23, .indexAddr 24 (.tmp 18) (.tmp 20), none⟩,
      ⟨some 24, .load 35 (.tmp 23), none⟩,
      ⟨some 7, .alloc 35, none⟩,
      ⟨some 6, .assign (.tmp 22), none⟩,
      ⟨none, .store 35 (.tmp 7) (.tmp 24), none⟩])
    (.seq
    (.seq
    (.reg [
      ⟨some 25, .move (.tmp 1), none⟩,
      ⟨some 26, .move (.tmp 6), none⟩,
      ⟨some 27, .call { callee := .value (.func 117), args := #[.tmp 25, .tmp 26], argTypes := #[25, 3] }, none⟩,
      ⟨some 28, .move (.tmp 27), none⟩,
      ⟨some 29, .fieldAddr 35 (.tmp 7) 0, some (28, false)⟩,
      ⟨some 30, .load 3 (.tmp 29), some (28, false)⟩,
      ⟨some 31, .fieldAddr 27 (.tmp 2) 0, some (28, false)⟩,
      ⟨some 32, .load 3 (.tmp 31), some (28, false)⟩,
      ⟨some 33, .binOp .geq 3 (.tmp 30) (.tmp 32) 3, some (28, false)⟩,
      ⟨some 34, .move (.tmp 33), some (28, false)⟩,
      ⟨some 35, .move (.tmp 1), some (34, true)⟩,
      ⟨some 36, .fieldAddr 35 (.tmp 7) 0, some (34, true)⟩,
      ⟨some 37, .load 3 (.tmp 36), some (34, true)⟩,
      ⟨some 38, .fieldAddr 27 (.tmp 2) 0, some (34, true)⟩,
      ⟨some 39, .load 3 (.tmp 38), some (34, true)⟩,
      ⟨some 40, .binOp .sub 3 (.tmp 37) (.tmp 39) 3, some (34, true)⟩,
      ⟨some 41, .call { callee := .value (.func 117), args := #[.tmp 35, .tmp 40], argTypes := #[25, 3] }, some (34, true)⟩,
      ⟨some 42, .unOp .not 4 (.tmp 41), some (34, true)⟩,
      ⟨some 43, .pick (.tmp 34) (.tmp 42) (.const (.bool false)), some (28, false)⟩,
      ⟨some 44, .pick (.tmp 28) (.const (.bool true)) (.tmp 43), none⟩,
      ⟨some 45, .move (.tmp 44), none⟩,
      ⟨some 46, .fieldAddr 35 (.tmp 7) 1, some (45, false)⟩,
      ⟨some 47, .load 3 (.tmp 46), some (45, false)⟩,
      ⟨some 48, .fieldAddr 27 (.tmp 2) 0, some (45, false)⟩,
      ⟨some 49, .load 3 (.tmp 48), some (45, false)⟩,
      ⟨some 50, .binOp .geq 3 (.tmp 47) (.tmp 49) 3, some (45, false)⟩,
      ⟨some 51, .move (.tmp 50), some (45, false)⟩,
      ⟨some 52, .move (.tmp 1), some (51, true)⟩,
      ⟨some 53, .fieldAddr 35 (.tmp 7) 1, some (51, true)⟩,
      ⟨some 54, .load 3 (.tmp 53), some (51, true)⟩,
      ⟨some 55, .fieldAddr 27 (.tmp 2) 0, some (51, true)⟩,
      ⟨some 56, .load 3 (.tmp 55), some (51, true)⟩,
      ⟨some 57, .binOp .sub 3 (.tmp 54) (.tmp 56) 3, some (51, true)⟩,
      ⟨some 58, .call { callee := .value (.func 117), args := #[.tmp 52, .tmp 57], argTypes := #[25, 3] }, some (51, true)⟩,
      ⟨some 59, .unOp .not 4 (.tmp 58), some (51, true)⟩,
      ⟨some 60, .pick (.tmp 51) (.tmp 59) (.const (.bool false)), some (45, false)⟩,
      ⟨some 61, .pick (.tmp 45) (.const (.bool true)) (.tmp 60), none⟩])
    (.cond (.tmp 61)
      (.exit 1)
      .skip))
    (.raw (.region 8 rg89_0 true)))))
    (.reg [
      ⟨some 71, .binOp .add 3 (.tmp 20) (.const (.int .i64 1)) 3, none⟩,
      ⟨some 20, .move (.tmp 71), none⟩])))))))
  (.seq
  (.reg [
    ⟨some 72, .move (.tmp 5), none⟩,
    ⟨some 4, .assign (.tmp 72), none⟩])
  .ret)))))
theorem hd89 : Try.f89.body.map dec = some c89 := by kernel_rfl
theorem e89 {R : AV → AH → Prop} {h : AH} (x0 x1 : AV) (H : h.wf → AI Try.prog c89 (RetQ Try.prog [.tmp 4] R) [x0, x1, un, un, un, un, un, un, un, un, un, un, un, un, un, un, un, un, un, un, un, un, un, un, un, un, un, un, un, un, un, un, un, un, un, un, un, un, un, un, un, un, un, un, un, un, un, un, un, un, un, un, un, un, un, un, un, un, un, un, un, un, un, un, un, un, un, un, un, un, un, un, un] h) : AC Try.prog 89 [x0, x1] h R :=
  AC_of' (rs := [.tmp 4]) Try.func89 (by kernel_rfl) hd89 Try.ntmps89 rfl H
theorem dk89_0 {h0 : AH} {L : List It} {Q : Exit → List AV → List It → Prop} {a : List AV} {id : Nat} (K : List (Nat × List AV)) (hK : ∀ x ∈ K, It.pt x.1 x.2 ∈ L) (H : LX Try.prog ⟨[6, 8], K⟩ h0 L L (.c (⟨some 62, .move (.tmp 5), none⟩, .p) <| .c (⟨some 64, .move (.tmp 1), none⟩, .p) <| .c (⟨some 66, .move (.tmp 6), none⟩, .p) <| .t (.c (⟨some 63, .load 27 (.tmp 2), none⟩, .e) <| .t (.c (⟨some 65, .call { callee := .value (.func 82), args := #[.tmp 64], argTypes := #[25] }, none⟩, .e) <| .c (⟨some 67, .buildSlice 25 1 #[(0, .tmp 66)], none⟩, .e) <| .c (⟨some 68, .call { callee := .builtin .append, args := #[.tmp 65, .tmp 67], argTypes := #[25, 25] }, none⟩, .f) <| .c (⟨some 69, .call { callee := .value (.func 89), args := #[.tmp 63, .tmp 68], argTypes := #[27, 25] }, none⟩, .e) <| .c (⟨some 70, .call { callee := .builtin .append, args := #[.tmp 62, .tmp 69], argTypes := #[77, 77] }, none⟩, .f) <| .c (⟨some 5, .assign (.tmp 70), none⟩, .p) <| .n) (.c (⟨some 67, .buildSlice 25 1 #[(0, .tmp 66)], none⟩, .e) <| .c (⟨some 65, .call { callee := .value (.func 82), args := #[.tmp 64], argTypes := #[25] }, none⟩, .e) <| .c (⟨some 68, .call { callee := .builtin .append, args := #[.tmp 65, .tmp 67], argTypes := #[25, 25] }, none⟩, .f) <| .c (⟨some 69, .call { callee := .value (.func 89), args := #[.tmp 63, .tmp 68], argTypes := #[27, 25] }, none⟩, .e) <| .c (⟨some 70, .call { callee := .builtin .append, args := #[.tmp 62, .tmp 69], argTypes := #[77, 77] }, none⟩, .f) <| .c (⟨some 5, .assign (.tmp 70), none⟩, .p) <| .n)) (.t (.c (⟨some 65, .call { callee := .value (.func 82), args := #[.tmp 64], argTypes := #[25] }, none⟩, .e) <| .t (.c (⟨some 63, .load 27 (.tmp 2), none⟩, .e) <| .c (⟨some 67, .buildSlice 25 1 #[(0, .tmp 66)], none⟩, .e) <| .c (⟨some 68, .call { callee := .builtin .append, args := #[.tmp 65, .tmp 67], argTypes := #[25, 25] }, none⟩, .f) <| .c (⟨some 69, .call { callee := .value (.func 89), args := #[.tmp 63, .tmp 68], argTypes := #[27, 25] }, none⟩, .e) <| .c (⟨some 70, .call { callee := .builtin .append, args := #[.tmp 62, .tmp 69], argTypes := #[77, 77] }, none⟩, .f) <| .c (⟨some 5, .assign (.tmp 70), none⟩, .p) <| .n) (.c (⟨some 67, .buildSlice 25 1 #[(0, .tmp 66)], none⟩, .e) <| .t (.c (⟨some 63, .load 27 (.tmp 2), none⟩, .e) <| .c (⟨some 68, .call { callee := .builtin .append, args := #[.tmp 65, .tmp 67], argTypes := #[25, 25] }, none⟩, .f) <| .c (⟨some 69, .call { callee := .value (.func 89), args := #[.tmp 63, .tmp 68], argTypes := #[27, 25] }, none⟩, .e) <| .c (⟨some 70, .call { callee := .builtin .append, args := #[.tmp 62, .tmp 69], argTypes := #[77, 77] }, none⟩, .f) <| .c (⟨some 5, .assign (.tmp 70), none⟩, .p) <| .n) (.c (⟨some 68, .call { callee := .builtin .append, args := #[.tmp 65, .tmp 67], argTypes := #[25, 25] }, none⟩, .f) <| .c (⟨some 63, .load 27 (.tmp 2), none⟩, .e) <| .c (⟨some 69, .call { callee := .value (.func 89), args := #[.tmp 63, .tmp 68], argTypes := #[27, 25] }, none⟩, .e) <| .c (⟨some 70, .call { callee := .builtin .append, args := #[.tmp 62, .tmp 69], argTypes := #[77, 77] }, none⟩, .f) <| .c (⟨some 5, .assign (.tmp 70), none⟩, .p) <| .n))) (.c (⟨some 67, .buildSlice 25 1 #[(0, .tmp 66)], none⟩, .e) <| .t (.c (⟨some 63, .load 27 (.tmp 2), none⟩, .e) <| .c (⟨some 65, .call { callee := .value (.func 82), args := #[.tmp 64], argTypes := #[25] }, none⟩, .e) <| .c (⟨some 68, .call { callee := .builtin .append, args := #[.tmp 65, .tmp 67], argTypes := #[25, 25] }, none⟩, .f) <| .c (⟨some 69, .call { callee := .value (.func 89), args := #[.tmp 63, .tmp 68], argTypes := #[27, 25] }, none⟩, .e) <| .c (⟨some 70, .call { callee := .builtin .append, args := #[.tmp 62, .tmp 69], argTypes := #[77, 77] }, none⟩, .f) <| .c (⟨some 5, .assign (.tmp 70), none⟩, .p) <| .n) (.c (⟨some 65, .call { callee := .value (.func 82), args := #[.tmp 64], argTypes := #[25] }, none⟩, .e) <| .t (.c (⟨some 63, .load 27 (.tmp 2), none⟩, .e) <| .c (⟨some 68, .call { callee := .builtin .append, args := #[.tmp 65, .tmp 67], argTypes := #[25, 25] }, none⟩, .f) <| .c (⟨some 69, .call { callee := .value (.func 89), args := #[.tmp 63, .tmp 68], argTypes := #[27, 25] }, none⟩, .e) <| .c (⟨some 70, .call { callee := .builtin .append, args := #[.tmp 62, .tmp 69], argTypes := #[77, 77] }, none⟩, .f) <| .c (⟨some 5, .assign (.tmp 70), none⟩, .p) <| .n) (.c (⟨some 68, .call { callee := .builtin .append, args := #[.tmp 65, .tmp 67], argTypes := #[25, 25] }, none⟩, .f) <| .c (⟨some 63, .load 27 (.tmp 2), none⟩, .e) <| .c (⟨some 69, .call { callee := .value (.func 89), args := #[.tmp 63, .tmp 68], argTypes := #[27, 25] }, none⟩, .e) <| .c (⟨some 70, .call { callee := .builtin .append, args := #[.tmp 62, .tmp 69], argTypes := #[77, 77] }, none⟩, .f) <| .c (⟨some 5, .assign (.tmp 70), none⟩, .p) <| .n))))) Q a) : LI Try.prog h0 L (.raw (.region id rg89_0 true)) Q a :=
  LI_drawK (.c (0, .p) <| .c (2, .p) <| .c (4, .p) <| .t (.c (1, .e) <| .t (.c (3, .e) <| .c (5, .e) <| .c (6, .f) <| .c (7, .e) <| .c (8, .f) <| .c (9, .p) <| .n) (.c (5, .e) <| .c (3, .e) <| .c (6, .f) <| .c (7, .e) <| .c (8, .f) <| .c (9, .p) <| .n)) (.t (.c (3, .e) <| .t (.c (1, .e) <| .c (5, .e) <| .c (6, .f) <| .c (7, .e) <| .c (8, .f) <| .c (9, .p) <| .n) (.c (5, .e) <| .t (.c (1, .e) <| .c (6, .f) <| .c (7, .e) <| .c (8, .f) <| .c (9, .p) <| .n) (.c (6, .f) <| .c (1, .e) <| .c (7, .e) <| .c (8, .f) <| .c (9, .p) <| .n))) (.c (5, .e) <| .t (.c (1, .e) <| .c (3, .e) <| .c (6, .f) <| .c (7, .e) <| .c (8, .f) <| .c (9, .p) <| .n) (.c (3, .e) <| .t (.c (1, .e) <| .c (6, .f) <| .c (7, .e) <| .c (8, .f) <| .c (9, .p) <| .n) (.c (6, .f) <| .c (1, .e) <| .c (7, .e) <| .c (8, .f) <| .c (9, .p) <| .n))))) [6, 8] K hK (by kernel_rfl) (by kernel_rfl) (by kernel_rfl) H
theorem db89_0 {h0 : AH} {L : List It} {Q : Exit → List AV → List It → Prop} {a : List AV} {id : Nat} (K : List (Nat × List AV)) (hK : ∀ x ∈ K, It.pt x.1 x.2 ∈ L) (H : LX Try.prog ⟨[3, 5, 6, 7, 8], K⟩ h0 L L (.c (⟨some 62, .move (.tmp 5), none⟩, .p) <| .c (⟨some 64, .move (.tmp 1), none⟩, .p) <| .c (⟨some 66, .move (.tmp 6), none⟩, .p) <| .t (.c (⟨some 63, .load 27 (.tmp 2), none⟩, .e) <| .t (.c (⟨some 65, .call { callee := .value (.func 82), args := #[.tmp 64], argTypes := #[25] }, none⟩, .f) <| .c (⟨some 67, .buildSlice 25 1 #[(0, .tmp 66)], none⟩, .f) <| .c (⟨some 68, .call { callee := .builtin .append, args := #[.tmp 65, .tmp 67], argTypes := #[25, 25] }, none⟩, .f) <| .c (⟨some 69, .call { callee := .value (.func 89), args := #[.tmp 63, .tmp 68], argTypes := #[27, 25] }, none⟩, .f) <| .c (⟨some 70, .call { callee := .builtin .append, args := #[.tmp 62, .tmp 69], argTypes := #[77, 77] }, none⟩, .f) <| .c (⟨some 5, .assign (.tmp 70), none⟩, .p) <| .n) (.c (⟨some 67, .buildSlice 25 1 #[(0, .tmp 66)], none⟩, .f) <| .c (⟨some 65, .call { callee := .value (.func 82), args := #[.tmp 64], argTypes := #[25] }, none⟩, .f) <| .c (⟨some 68, .call { callee := .builtin .append, args := #[.tmp 65, .tmp 67], argTypes := #[25, 25] }, none⟩, .f) <| .c (⟨some 69, .call { callee := .value (.func 89), args := #[.tmp 63, .tmp 68], argTypes := #[27, 25] }, none⟩, .f) <| .c (⟨some 70, .call { callee := .builtin .append, args := #[.tmp 62, .tmp 69], argTypes := #[77, 77] }, none⟩, .f) <| .c (⟨some 5, .assign (.tmp 70), none⟩, .p) <| .n)) (.t (.c (⟨some 65, .call { callee := .value (.func 82), args := #[.tmp 64], argTypes := #[25] }, none⟩, .f) <| .t (.c (⟨some 63, .load 27 (.tmp 2), none⟩, .e) <| .c (⟨some 67, .buildSlice 25 1 #[(0, .tmp 66)], none⟩, .f) <| .c (⟨some 68, .call { callee := .builtin .append, args := #[.tmp 65, .tmp 67], argTypes := #[25, 25] }, none⟩, .f) <| .c (⟨some 69, .call { callee := .value (.func 89), args := #[.tmp 63, .tmp 68], argTypes := #[27, 25] }, none⟩, .f) <| .c (⟨some 70, .call { callee := .builtin .append, args := #[.tmp 62, .tmp 69], argTypes := #[77, 77] }, none⟩, .f) <| .c (⟨some 5, .assign (.tmp 70), none⟩, .p) <| .n) (.c (⟨some 67, .buildSlice 25 1 #[(0, .tmp 66)], none⟩, .f) <| .t (.c (⟨some 63, .load 27 (.tmp 2), none⟩, .e) <| .c (⟨some 68, .call { callee := .builtin .append, args := #[.tmp 65, .tmp 67], argTypes := #[25, 25] }, none⟩, .f) <| .c (⟨some 69, .call { callee := .value (.func 89), args := #[.tmp 63, .tmp 68], argTypes := #[27, 25] }, none⟩, .f) <| .c (⟨some 70, .call { callee := .builtin .append, args := #[.tmp 62, .tmp 69], argTypes := #[77, 77] }, none⟩, .f) <| .c (⟨some 5, .assign (.tmp 70), none⟩, .p) <| .n) (.c (⟨some 68, .call { callee := .builtin .append, args := #[.tmp 65, .tmp 67], argTypes := #[25, 25] }, none⟩, .f) <| .c (⟨some 63, .load 27 (.tmp 2), none⟩, .e) <| .c (⟨some 69, .call { callee := .value (.func 89), args := #[.tmp 63, .tmp 68], argTypes := #[27, 25] }, none⟩, .f) <| .c (⟨some 70, .call { callee := .builtin .append, args := #[.tmp 62, .tmp 69], argTypes := #[77, 77] }, none⟩, .f) <| .c (⟨some 5, .assign (.tmp 70), none⟩, .p) <| .n))) (.c (⟨some 67, .buildSlice 25 1 #[(0, .tmp 66)], none⟩, .f) <| .t (.c (⟨some 63, .load 27 (.tmp 2), none⟩, .e) <| .c (⟨some 65, .call { callee := .value (.func 82), args := #[.tmp 64], argTypes := #[25] }, none⟩, .f) <| .c (⟨some 68, .call { callee := .builtin .append, args := #[.tmp 65, .tmp 67], argTypes := #[25, 25] }, none⟩, .f) <| .c (⟨some 69, .call { callee := .value (.func 89), args := #[.tmp 63, .tmp 68], argTypes := #[27, 25] }, none⟩, .f) <| .c (⟨some 70, .call { callee := .builtin .append, args := #[.tmp 62, .tmp 69], argTypes := #[77, 77] }, none⟩, .f) <| .c (⟨some 5, .assign (.tmp 70), none⟩, .p) <| .n) (.c (⟨some 65, .call { callee := .value (.func 82), args := #[.tmp 64], argTypes := #[25] }, none⟩, .f) <| .t (.c (⟨some 63, .load 27 (.tmp 2), none⟩, .e) <| .c (⟨some 68, .call { callee := .builtin .append, args := #[.tmp 65, .tmp 67], argTypes := #[25, 25] }, none⟩, .f) <| .c (⟨some 69, .call { callee := .value (.func 89), args := #[.tmp 63, .tmp 68], argTypes := #[27, 25] }, none⟩, .f) <| .c (⟨some 70, .call { callee := .builtin .append, args := #[.tmp 62, .tmp 69], argTypes := #[77, 77] }, none⟩, .f) <| .c (⟨some 5, .assign (.tmp 70), none⟩, .p) <| .n) (.c (⟨some 68, .call { callee := .builtin .append, args := #[.tmp 65, .tmp 67], argTypes := #[25, 25] }, none⟩, .f) <| .c (⟨some 63, .load 27 (.tmp 2), none⟩, .e) <| .c (⟨some 69, .call { callee := .value (.func 89), args := #[.tmp 63, .tmp 68], argTypes := #[27, 25] }, none⟩, .f) <| .c (⟨some 70, .call { callee := .builtin .append, args := #[.tmp 62, .tmp 69], argTypes := #[77, 77] }, none⟩, .f) <| .c (⟨some 5, .assign (.tmp 70), none⟩, .p) <| .n))))) Q a) : LI Try.prog h0 L (.raw (.region id rg89_0 true)) Q a :=
  LI_drawK (.c (0, .p) <| .c (2, .p) <| .c (4, .p) <| .t (.c (1, .e) <| .t (.c (3, .f) <| .c (5, .f) <| .c (6, .f) <| .c (7, .f) <| .c (8, .f) <| .c (9, .p) <| .n) (.c (5, .f) <| .c (3, .f) <| .c (6, .f) <| .c (7, .f) <| .c (8, .f) <| .c (9, .p) <| .n)) (.t (.c (3, .f) <| .t (.c (1, .e) <| .c (5, .f) <| .c (6, .f) <| .c (7, .f) <| .c (8, .f) <| .c (9, .p) <| .n) (.c (5, .f) <| .t (.c (1, .e) <| .c (6, .f) <| .c (7, .f) <| .c (8, .f) <| .c (9, .p) <| .n) (.c (6, .f) <| .c (1, .e) <| .c (7, .f) <| .c (8, .f) <| .c (9, .p) <| .n))) (.c (5, .f) <| .t (.c (1, .e) <| .c (3, .f) <| .c (6, .f) <| .c (7, .f) <| .c (8, .f) <| .c (9, .p) <| .n) (.c (3, .f) <| .t (.c (1, .e) <| .c (6, .f) <| .c (7, .f) <| .c (8, .f) <| .c (9, .p) <| .n) (.c (6, .f) <| .c (1, .e) <| .c (7, .f) <| .c (8, .f) <| .c (9, .p) <| .n))))) [3, 5, 6, 7, 8] K hK (by kernel_rfl) (by kernel_rfl) (by kernel_rfl) H
theorem dl89_0 {h0 : AH} {L : List It} {Q : Exit → List AV → List It → Prop} {a : List AV} {id : Nat} (K : List (Nat × List AV)) (hK : ∀ x ∈ K, It.pt x.1 x.2 ∈ L) (H : LX Try.prog ⟨[6, 7, 8], K⟩ h0 L L (.c (⟨some 62, .move (.tmp 5), none⟩, .p) <| .c (⟨some 64, .move (.tmp 1), none⟩, .p) <| .c (⟨some 66, .move (.tmp 6), none⟩, .p) <| .t (.c (⟨some 63, .load 27 (.tmp 2), none⟩, .e) <| .t (.c (⟨some 65, .call { callee := .value (.func 82), args := #[.tmp 64], argTypes := #[25] }, none⟩, .e) <| .c (⟨some 67, .buildSlice 25 1 #[(0, .tmp 66)], none⟩, .e) <| .c (⟨some 68, .call { callee := .builtin .append, args := #[.tmp 65, .tmp 67], argTypes := #[25, 25] }, none⟩, .f) <| .c (⟨some 69, .call { callee := .value (.func 89), args := #[.tmp 63, .tmp 68], argTypes := #[27, 25] }, none⟩, .f) <| .c (⟨some 70, .call { callee := .builtin .append, args := #[.tmp 62, .tmp 69], argTypes := #[77, 77] }, none⟩, .f) <| .c (⟨some 5, .assign (.tmp 70), none⟩, .p) <| .n) (.c (⟨some 67, .buildSlice 25 1 #[(0, .tmp 66)], none⟩, .e) <| .c (⟨some 65, .call { callee := .value (.func 82), args := #[.tmp 64], argTypes := #[25] }, none⟩, .e) <| .c (⟨some 68, .call { callee := .builtin .append, args := #[.tmp 65, .tmp 67], argTypes := #[25, 25] }, none⟩, .f) <| .c (⟨some 69, .call { callee := .value (.func 89), args := #[.tmp 63, .tmp 68], argTypes := #[27, 25] }, none⟩, .f) <| .c (⟨some 70, .call { callee := .builtin .append, args := #[.tmp 62, .tmp 69], argTypes := #[77, 77] }, none⟩, .f) <| .c (⟨some 5, .assign (.tmp 70), none⟩, .p) <| .n)) (.t (.c (⟨some 65, .call { callee := .value (.func 82), args := #[.tmp 64], argTypes := #[25] }, none⟩, .e) <| .t (.c (⟨some 63, .load 27 (.tmp 2), none⟩, .e) <| .c (⟨some 67, .buildSlice 25 1 #[(0, .tmp 66)], none⟩, .e) <| .c (⟨some 68, .call { callee := .builtin .append, args := #[.tmp 65, .tmp 67], argTypes := #[25, 25] }, none⟩, .f) <| .c (⟨some 69, .call { callee := .value (.func 89), args := #[.tmp 63, .tmp 68], argTypes := #[27, 25] }, none⟩, .f) <| .c (⟨some 70, .call { callee := .builtin .append, args := #[.tmp 62, .tmp 69], argTypes := #[77, 77] }, none⟩, .f) <| .c (⟨some 5, .assign (.tmp 70), none⟩, .p) <| .n) (.c (⟨some 67, .buildSlice 25 1 #[(0, .tmp 66)], none⟩, .e) <| .t (.c (⟨some 63, .load 27 (.tmp 2), none⟩, .e) <| .c (⟨some 68, .call { callee := .builtin .append, args := #[.tmp 65, .tmp 67], argTypes := #[25, 25] }, none⟩, .f) <| .c (⟨some 69, .call { callee := .value (.func 89), args := #[.tmp 63, .tmp 68], argTypes := #[27, 25] }, none⟩, .f) <| .c (⟨some 70, .call { callee := .builtin .append, args := #[.tmp 62, .tmp 69], argTypes := #[77, 77] }, none⟩, .f) <| .c (⟨some 5, .assign (.tmp 70), none⟩, .p) <| .n) (.c (⟨some 68, .call { callee := .builtin .append, args := #[.tmp 65, .tmp 67], argTypes := #[25, 25] }, none⟩, .f) <| .c (⟨some 63, .load 27 (.tmp 2), none⟩, .e) <| .c (⟨some 69, .call { callee := .value (.func 89), args := #[.tmp 63, .tmp 68], argTypes := #[27, 25] }, none⟩, .f) <| .c (⟨some 70, .call { callee := .builtin .append, args := #[.tmp 62, .tmp 69], argTypes := #[77, 77] }, none⟩, .f) <| .c (⟨some 5, .assign (.tmp 70), none⟩, .p) <| .n))) (.c (⟨some 67, .buildSlice 25 1 #[(0, .tmp 66)], none⟩, .e) <| .t (.c (⟨some 63, .load 27 (.tmp 2), none⟩, .e) <| .c (⟨some 65, .call { callee := .value (.func 82), args := #[.tmp 64], argTypes := #[25] }, none⟩, .e) <| .c (⟨some 68, .call { callee := .builtin .append, args := #[.tmp 65, .tmp 67], argTypes := #[25, 25] }, none⟩, .f) <| .c (⟨some 69, .call { callee := .value (.func 89), args := #[.tmp 63, .tmp 68], argTypes := #[27, 25] }, none⟩, .f) <| .c (⟨some 70, .call { callee := .builtin .append, args := #[.tmp 62, .tmp 69], argTypes := #[77, 77] }, none⟩, .f) <| .c (⟨some 5, .assign (.tmp 70), none⟩, .p) <| .n) (.c (⟨some 65, .call { callee := .value (.func 82), args := #[.tmp 64], argTypes := #[25] }, none⟩, .e) <| .t (.c (⟨some 63, .load 27 (.tmp 2), none⟩, .e) <| .c (⟨some 68, .call { callee := .builtin .append, args := #[.tmp 65, .tmp 67], argTypes := #[25, 25] }, none⟩, .f) <| .c (⟨some 69, .call { callee := .value (.func 89), args := #[.tmp 63, .tmp 68], argTypes := #[27, 25] }, none⟩, .f) <| .c (⟨some 70, .call { callee := .builtin .append, args := #[.tmp 62, .tmp 69], argTypes := #[77, 77] }, none⟩, .f) <| .c (⟨some 5, .assign (.tmp 70), none⟩, .p) <| .n) (.c (⟨some 68, .call { callee := .builtin .append, args := #[.tmp 65, .tmp 67], argTypes := #[25, 25] }, none⟩, .f) <| .c (⟨some 63, .load 27 (.tmp 2), none⟩, .e) <| .c (⟨some 69, .call { callee := .value (.func 89), args := #[.tmp 63, .tmp 68], argTypes := #[27, 25] }, none⟩, .f) <| .c (⟨some 70, .call { callee := .builtin .append, args := #[.tmp 62, .tmp 69], argTypes := #[77, 77] }, none⟩, .f) <| .c (⟨some 5, .assign (.tmp 70), none⟩, .p) <| .n))))) Q a) : LI Try.prog h0 L (.raw (.region id rg89_0 true)) Q a :=
  LI_drawK (.c (0, .p) <| .c (2, .p) <| .c (4, .p) <| .t (.c (1, .e) <| .t (.c (3, .e) <| .c (5, .e) <| .c (6, .f) <| .c (7, .f) <| .c (8, .f) <| .c (9, .p) <| .n) (.c (5, .e) <| .c (3, .e) <| .c (6, .f) <| .c (7, .f) <| .c (8, .f) <| .c (9, .p) <| .n)) (.t (.c (3, .e) <| .t (.c (1, .e) <| .c (5, .e) <| .c (6, .f) <| .c (7, .f) <| .c (8, .f) <| .c (9, .p) <| .n) (.c (5, .e) <| .t (.c (1, .e) <| .c (6, .f) <| .c (7, .f) <| .c (8, .f) <| .c (9, .p) <| .n) (.c (6, .f) <| .c (1, .e) <| .c (7, .f) <| .c (8, .f) <| .c (9, .p) <| .n))) (.c (5, .e) <| .t (.c (1, .e) <| .c (3, .e) <| .c (6, .f) <| .c (7, .f) <| .c (8, .f) <| .c (9, .p) <| .n) (.c (3, .e) <| .t (.c (1, .e) <| .c (6, .f) <| .c (7, .f) <| .c (8, .f) <| .c (9, .p) <| .n) (.c (6, .f) <| .c (1, .e) <| .c (7, .f) <| .c (8, .f) <| .c (9, .p) <| .n))))) [6, 7, 8] K hK (by kernel_rfl) (by kernel_rfl) (by kernel_rfl) H

/-- spec.CountOrders -/
def c42 : IC :=
  (.seq
  (.reg [
    ⟨some 1, .box 27 (.tmp 0), none⟩,
    ⟨some 2, .assign (.const (.int .i64 0)), none⟩,
    ⟨some 3, .assign (.const (.bool false)), none⟩])
  (.seq
  (.seq
  (.reg [
    ⟨some 4, .load 27 (.tmp 1), none⟩,
    ⟨some 5, .call { callee := .value (.func 88), args := #[.tmp 4], argTypes := #[27] }, none⟩,
    ⟨some 6, .unOp .not 4 (.tmp 5), none⟩])
  (.cond (.tmp 6)
    (.seq
    (.reg [
      ⟨some 2, .assign (.const (.int .i64 0)), none⟩,
      ⟨some 3, .assign (.const (.bool false)), none⟩])
    .ret)
    .skip))
  (.seq
  (.reg [
    ⟨some 7, .load 27 (.tmp 1), none⟩,
    ⟨some 8, .call { callee := .value (.func 89), args := #[.tmp 7, .const (.slice none 0 0)], argTypes := #[27, 25] }, none⟩,
    ⟨some 9, .call { callee := .builtin .len, args := #[.tmp 8], argTypes := #[77] }, none⟩,
    ⟨some 2, .assign (.tmp 9), none⟩,
    ⟨some 3, .assign (.const (.bool true)), none⟩])
  .ret)))
theorem hd42 : Try.f42.body.map dec = some c42 := by kernel_rfl
theorem e42 {R : AV → AH → Prop} {h : AH} (x0 : AV) (H : h.wf → AI Try.prog c42 (RetQ Try.prog [.tmp 2, .tmp 3] R) [x0, un, un, un, un, un, un, un, un, un] h) : AC Try.prog 42 [x0] h R :=
  AC_of' (rs := [.tmp 2, .tmp 3]) Try.func42 (by kernel_rfl) hd42 Try.ntmps42 rfl H

/-- (*impl.Plan).exponents -/
def c62 : IC :=
  (.seq
  (.reg [
    ⟨some 2, .assign (.const (.slice none 0 0)), none⟩])
  (.seq
  (.reg [
    ⟨some 11, .buildSlice 77 0 #[], none⟩,
    ⟨some 3, .assign (.tmp 11), none⟩])
  (.seq
  (.seq
  (.reg [
    ⟨some 12, .move (.tmp 0), none⟩,
    ⟨some 13, .nilCheck (.tmp 12), none⟩,
    ⟨some 14, .fieldAddr 27 (.tmp 13) 0, none⟩,
    ⟨some 15, .load 3 (.tmp 14), none⟩,
    ⟨some 16, .move (.const (.int .i64 0)), none⟩])
  (.block 0
  (.loop
    (.seq
    (.reg [
      ⟨some 17, .binOp .lss 3 (.tmp 16) (.tmp 15) 3, none⟩])
    (.seq
    (.cond (.tmp 17)
      .skip
      (.exit 0))
    (.seq
    (.block 1
    (.seq
    (.reg [
      ⟨some 18, .move (.tmp 16), none⟩,
      ⟨some 4, .assign (.tmp 18), none⟩])
    (.seq
    (.reg [
      ⟨some 19, .move (.tmp 0), none⟩,
      ⟨some 20, .nilCheck (.tmp 19), none⟩,
      ⟨some 21, .fieldAddr 27 (.tmp 20) 0, none⟩,
      ⟨some 22, .load 3 (.tmp 21), none⟩,
      ⟨some 23, .makeSlice 25 (.tmp 22) (.tmp 22), none⟩,
      ⟨some 5, .assign (.tmp 23), none⟩])
    (.seq
    (.reg [
      ⟨some 24, .move (.tmp 5), none⟩,
      ⟨some 25, .move (.tmp 4), none⟩,
      ⟨some 26, .indexAddr 25 (.tmp 24) (.tmp 25), none⟩,
      ⟨none, .store 3 (.tmp 26) (.const (.int .i64 1)), none⟩])
    (.reg [
      ⟨some 27, .move (.tmp 3), none⟩,
      ⟨some 28, .move (.tmp 5), none⟩,
      ⟨some 29, .buildSlice 77 1 #[(0, .tmp 28)], none⟩,
      ⟨some 30, .call { callee := .builtin .append, args := #[.tmp 27, .tmp 29], argTypes := #[77, 77] }, none⟩,
      ⟨some 3, .assign (.tmp 30), none⟩])))))
    (.reg [
      ⟨some 31, .binOp .add 3 (.tmp 16) (.const (.int .i64 1)) 3, none⟩,
      ⟨some 16, .move (.tmp 31), none⟩])))))))
  (.seq
  (.seq
  (.reg [
    ⟨some 32, .move (.tmp 0), none⟩,
    ⟨some 33, .nilCheck (.tmp 32), none⟩,
    ⟨some 34, .fieldAddr 27 (.tmp 33) 1, none⟩,
    ⟨some 35, .load 24 (.tmp 34), none⟩,
    ⟨some 36, .call { callee := .builtin .len, args := #[.tmp 35], argTypes := #[24] }, none⟩,
    ⟨some 37, .move (.const (.int .i64 0)), none⟩])
  (.block 2
  (.loop
    (.seq
    (.reg [
      ⟨some 38, .binOp .lss 3 (.tmp 37) (.tmp 36) 3, none⟩])
    (.seq
    (.cond (.tmp 38)
      .skip
      (.exit 2))
    (.seq
    (.block 3
    (.seq
    (.reg [
      ⟨some 39, .indexAddr 24 (.tmp 35) (.tmp 37), none⟩,
      ⟨some 40, .load 35 (.tmp 39), none⟩,
      ⟨some 7, .alloc 35, none⟩,
      ⟨none, .store 35 (.tmp 7) (.tmp 40), none⟩])
    (.seq
    (.reg [
      ⟨some 41, .buildSlice 25 0 #[], none⟩,
      ⟨some 8, .assign (.tmp 41), none⟩])
    (.seq
    (.seq
    (.reg [
      ⟨some 42, .move (.tmp 3), none⟩,
      ⟨some 43, .fieldAddr 35 (.tmp 7) 0, none⟩,
      ⟨some 44, .load 3 (.tmp 43), none⟩,
      ⟨some 45, .indexAddr 77 (.tmp 42) (.tmp 44), none⟩,
      ⟨some 46, .load 25 (.tmp 45), none⟩,
      ⟨some 47, .call { callee := .builtin .len, args := #[.tmp 46], argTypes := #[25] }, none⟩,
      ⟨some 48, .move (.const (.int .i64 0)), none⟩])
    (.block 4
    (.loop
      (.seq
      (.reg [
        ⟨some 49, .binOp .lss 3 (.tmp 48) (.tmp 47) 3, none⟩])
      (.seq
      (.cond (.tmp 49)
        .skip
        (.exit 4))
      (.seq
      (.block 5
      (.seq
      (.reg [
        ⟨some 50, .move (.tmp 48), none⟩,
        ⟨some 51, .indexAddr 25 (.tmp 46) (.tmp 48), none⟩,
        ⟨some 52, .load 3 (.tmp 51), none⟩,
        ⟨some 9, .assign (.tmp 50), none⟩,
        ⟨some 10, .assign (.tmp 52), none⟩])
      (.reg [
        ⟨some 53, .move (.tmp 8), none⟩,
        ⟨some 54, .move (.tmp 10), none⟩,
        ⟨some 55, .move (.tmp 3), none⟩,
        ⟨some 56, .fieldAddr 35 (.tmp 7) 1, none⟩,
        ⟨some 57, .load 3 (.tmp 56), none⟩,
        ⟨some 58, .indexAddr 77 (.tmp 55) (.tmp 57), none⟩,
        ⟨some 59, .load 25 (.tmp 58), none⟩,
        ⟨some 60, .move (.tmp 9), none⟩,
        ⟨some 61, .indexAddr 25 (.tmp 59) (.tmp 60), none⟩,
        ⟨some 62, .load 3 (.tmp 61), none⟩,
        ⟨some 63, .binOp .add 3 (.tmp 54) (.tmp 62) 3, none⟩,
        ⟨some 64, .call { callee := .builtin .min, args := #[.tmp 63, .const (.int .i64 1000001)], argTypes := #[3, 3] }, none⟩,
        ⟨some 65, .buildSlice 25 1 #[(0, .tmp 64)], none⟩,
        ⟨some 66, .call { callee := .builtin .append, args := #[.tmp 53, .tmp 65], argTypes := #[25, 25] }, none⟩,
        ⟨some 8, .assign (.tmp 66), none⟩])))
      (.reg [
        ⟨some 67, .binOp .add 3 (.tmp 48) (.const (.int .i64 1)) 3, none⟩,
        ⟨some 48, .move (.tmp 67), none⟩])))))))
    (.reg [
      ⟨some 68, .move (.tmp 3), none⟩,
      ⟨some 69, .move (.tmp 8), none⟩,
      ⟨some 70, .buildSlice 77 1 #[(0, .tmp 69)], none⟩,
      ⟨some 71, .call { callee := .builtin .append, args := #[.tmp 68, .tmp 70], argTypes := #[77, 77] }, none⟩,
      ⟨some 3, .assign (.tmp 71), none⟩])))))
    (.reg [
      ⟨some 72, .binOp .add 3 (.tmp 37) (.const (.int .i64 1)) 3, none⟩,
      ⟨some 37, .move (.tmp 72), none⟩])))))))
  (.seq
  (.reg [
    ⟨some 73, .move (.tmp 3), none⟩,
    ⟨some 2, .assign (.tmp 73), none⟩])
  .ret)))))
theorem hd62 : Try.f62.body.map dec = some c62 := by kernel_rfl
theorem e62 {R : AV → AH → Prop} {h : AH} (x0 : AV) (H : h.wf → AI Try.prog c62 (RetQ Try.prog [.tmp 2] R) [x0, un, un, un, un, un, un, un, un, un, un, un, un, un, un, un, un, un, un, un, un, un, un, un, un, un, un, un, un, un, un, un, un, un, un, un, un, un, un, un, un, un, un, un, un, un, un, un, un, un, un, un, un, un, un, un, un, un, un, un, un, un, un, un, un, un, un, un, un, un, un, un, un, un] h) : AC Try.prog 62 [x0] h R :=
  AC_of' (rs := [.tmp 2]) Try.func62 (by kernel_rfl) hd62 Try.ntmps62 rfl H

/-- impl.in -/
def c57 : IC :=
  (.seq
  (.reg [
    ⟨some 6, .assign (.const (.bool false)), none⟩])
  (.seq
  (.reg [
    ⟨some 7, .move (.tmp 0), none⟩,
    ⟨some 8, .move (.tmp 1), none⟩,
    ⟨some 9, .binOp .geq 3 (.tmp 7) (.tmp 8) 3, none⟩,
    ⟨some 10, .move (.tmp 9), none⟩,
    ⟨some 11, .move (.tmp 0), some (10, true)⟩,
    ⟨some 12, .move (.tmp 2), some (10, true)⟩,
    ⟨some 13, .binOp .leq 3 (.tmp 11) (.tmp 12) 3, some (10, true)⟩,
    ⟨some 14, .pick (.tmp 10) (.tmp 13) (.const (.bool false)), none⟩,
    ⟨some 6, .assign (.tmp 14), none⟩])
  .ret))
theorem hd57 : Try.f57.body.map dec = some c57 := by kernel_rfl
theorem e57 {R : AV → AH → Prop} {h : AH} (x0 x1 x2 : AV) (H : h.wf → AI Try.prog c57 (RetQ Try.prog [.tmp 6] R) [x0, x1, x2, un, un, un, un, un, un, un, un, un, un, un, un] h) : AC Try.prog 57 [x0, x1, x2] h R :=
  AC_of' (rs := [.tmp 6]) Try.func57 (by kernel_rfl) hd57 Try.ntmps57 rfl H

/-- slices.IndexFunc[[]int,int] -/
def c139 : IC :=
  (.seq
  (.reg [
    ⟨some 4, .assign (.const (.int .i64 0)), none⟩])
  (.seq
  (.seq
  (.reg [
    ⟨some 6, .move (.tmp 0), none⟩,
    ⟨some 7, .call { callee := .builtin .len, args := #[.tmp 6], argTypes := #[25] }, none⟩,
    ⟨some 8, .move (.const (.int .i64 0)), none⟩])
  (.block 0
  (.loop
    (.seq
    (.reg [
      ⟨some 9, .binOp .lss 3 (.tmp 8) (.tmp 7) 3, none⟩])
    (.seq
    (.cond (.tmp 9)
      .skip
      (.exit 0))
    (.seq
    (.block 1
    (.seq
    (.reg [
      ⟨some 10, .move (.tmp 8), none⟩,
      ⟨some 5, .assign (.tmp 10), none⟩])
    (.seq
    (.reg [
      ⟨some 11, .move (.tmp 1), none⟩,
      ⟨some 12, .move (.tmp 0), none⟩,
      ⟨some 13, .move (.tmp 5), none⟩,
      ⟨some 14, .indexAddr 25 (.tmp 12) (.tmp 13), none⟩,
      ⟨some 15, .load 3 (.tmp 14), none⟩,
      ⟨some 16, .call { callee := .value (.tmp 11), args := #[.tmp 15], argTypes := #[3] }, none⟩])
    (.cond (.tmp 16)
      (.seq
      (.reg [
        ⟨some 17, .move (.tmp 5), none⟩,
        ⟨some 4, .assign (.tmp 17), none⟩])
      .ret)
      .skip))))
    (.reg [
      ⟨some 18, .binOp .add 3 (.tmp 8) (.const (.int .i64 1)) 3, none⟩,
      ⟨some 8, .move (.tmp 18), none⟩])))))))
  (.seq
  (.reg [
    ⟨some 4, .assign (.const (.int .i64 (-1))), none⟩])
  .ret)))
theorem hd139 : Try.f139.body.map dec = some c139 := by kernel_rfl
theorem e139 {R : AV → AH → Prop} {h : AH} (x0 x1 : AV) (H : h.wf → AI Try.prog c139 (RetQ Try.prog [.tmp 4] R) [x0, x1, un, un, un, un, un, un, un, un, un, un, un, un, un, un, un, un, un] h) : AC Try.prog 139 [x0, x1] h R :=
  AC_of' (rs := [.tmp 4]) Try.func139 (by kernel_rfl) hd139 Try.ntmps139 rfl H

/-- slices.ContainsFunc[[]int,int] -/
def c120 : IC :=
  (.seq
  (.reg [
    ⟨some 4, .assign (.const (.bool false)), none⟩])
  (.seq
  (.reg [
    ⟨some 5, .move (.tmp 0), none⟩,
    ⟨some 6, .move (.tmp 1), none⟩,
    ⟨some 7, .call { callee := .value (.func 139), args := #[.tmp 5, .tmp 6], argTypes := #[25, 103] }, none⟩,
    ⟨some 8, .binOp .geq 3 (.tmp 7) (.const (.int .i64 0)) 3, none⟩,
    ⟨some 4, .assign (.tmp 8), none⟩])
  .ret))
theorem hd120 : Try.f120.body.map dec = some c120 := by kernel_rfl
theorem e120 {R : AV → AH → Prop} {h : AH} (x0 x1 : AV) (H : h.wf → AI Try.prog c120 (RetQ Try.prog [.tmp 4] R) [x0, x1, un, un, un, un, un, un, un] h) : AC Try.prog 120 [x0, x1] h R :=
  AC_of' (rs := [.tmp 4]) Try.func120 (by kernel_rfl) hd120 Try.ntmps120 rfl H

noncomputable def rg58_0 : Array Oper := rawAt Try.f58 0
/-- (*impl.Plan).many -/
noncomputable def c58 : IC :=
  (.seq
  (.reg [
    ⟨some 2, .assign (.const (.int .i64 0)), none⟩])
  (.seq
  (.raw (.region 1 rg58_0 true))
  .ret))
theorem hd58 : Try.f58.body.map dec = some c58 := by kernel_rfl
theorem e58 {R : AV → AH → Prop} {h : AH} (x0 : AV) (H : h.wf → AI Try.prog c58 (RetQ Try.prog [.tmp 2] R) [x0, un, un, un, un, un, un, un, un, un, un, un, un] h) : AC Try.prog 58 [x0] h R :=
  AC_of' (rs := [.tmp 2]) Try.func58 (by kernel_rfl) hd58 Try.ntmps58 rfl H
theorem dz58_0 {h0 : AH} {L : List It} {Q : Exit → List AV → List It → Prop} {a : List AV} {id : Nat} (H : LX Try.prog ⟨[], []⟩ h0 L L (.c (⟨some 3, .move (.tmp 0), none⟩, .p) <| .c (⟨some 4, .nilCheck (.tmp 3), none⟩, .p) <| .c (⟨some 5, .fieldAddr 27 (.tmp 4) 0, none⟩, .p) <| .c (⟨some 6, .load 3 (.tmp 5), none⟩, .l) <| .c (⟨some 7, .move (.tmp 0), none⟩, .p) <| .c (⟨some 8, .nilCheck (.tmp 7), none⟩, .p) <| .c (⟨some 9, .fieldAddr 27 (.tmp 8) 1, none⟩, .p) <| .c (⟨some 10, .load 24 (.tmp 9), none⟩, .l) <| .c (⟨some 11, .call { callee := .builtin .len, args := #[.tmp 10], argTypes := #[24] }, none⟩, .p) <| .c (⟨some 12, .binOp .add 3 (.tmp 6) (.tmp 11) 3, none⟩, .p) <| .c (⟨some 2, .assign (.tmp 12), none⟩, .p) <| .n) Q a) : LI Try.prog h0 L (.raw (.region id rg58_0 true)) Q a :=
  LI_draw (.c (0, .p) <| .c (1, .p) <| .c (2, .p) <| .c (3, .l) <| .c (4, .p) <| .c (5, .p) <| .c (6, .p) <| .c (7, .l) <| .c (8, .p) <| .c (9, .p) <| .c (10, .p) <| .n) [] (by kernel_rfl) (by kernel_rfl) (by kernel_rfl) H
theorem dr58_0 (m : Nat) {Q : Exit → List AV → AH → Prop} {a : List AV} {h : AH} {id : Nat} (H : AX Try.prog m h [(⟨some 3, .move (.tmp 0), none⟩, true),
  (⟨some 4, .nilCheck (.tmp 3), none⟩, true),
  (⟨some 5, .fieldAddr 27 (.tmp 4) 0, none⟩, true),
  (⟨some 6, .load 3 (.tmp 5), none⟩, true),
  (⟨some 7, .move (.tmp 0), none⟩, true),
  (⟨some 8, .nilCheck (.tmp 7), none⟩, true),
  (⟨some 9, .fieldAddr 27 (.tmp 8) 1, none⟩, true),
  (⟨some 10, .load 24 (.tmp 9), none⟩, true),
  (⟨some 11, .call { callee := .builtin .len, args := #[.tmp 10], argTypes := #[24] }, none⟩, true),
  (⟨some 12, .binOp .add 3 (.tmp 6) (.tmp 11) 3, none⟩, true),
  (⟨some 2, .assign (.tmp 12), none⟩, true)] (fun a' h' => Q .normal a' h') a h) : AI Try.prog (.raw (.region id rg58_0 true)) Q a h :=
  AI_draw [(0, true), (1, true), (2, true), (3, true), (4, true), (5, true), (6, true), (7, true), (8, true), (9, true), (10, true)] m (by kernel_rfl) (by kernel_rfl) (by kernel_rfl) H

/-- (*impl.Plan).formed$1 -/
def c135 : IC :=
  (.seq
  (.reg [
    ⟨some 3, .assign (.const (.bool false)), none⟩])
  (.seq
  (.reg [
    ⟨some 4, .move (.tmp 0), none⟩,
    ⟨some 5, .load 92 (.tmp 1), none⟩,
    ⟨some 6, .call { callee := .value (.func 58), args := #[.tmp 5], argTypes := #[92] }, none⟩,
    ⟨some 7, .binOp .sub 3 (.tmp 6) (.const (.int .i64 1)) 3, none⟩,
    ⟨some 8, .call { callee := .value (.func 57), args := #[.tmp 4, .const (.int .i64 0), .tmp 7], argTypes := #[3, 3, 3] }, none⟩,
    ⟨some 9, .unOp .not 4 (.tmp 8), none⟩,
    ⟨some 3, .assign (.tmp 9), none⟩])
  .ret))
theorem hd135 : Try.f135.body.map dec = some c135 := by kernel_rfl
theorem e135 {R : AV → AH → Prop} {h : AH} (x0 x1 : AV) (H : h.wf → AI Try.prog c135 (RetQ Try.prog [.tmp 3] R) [x0, x1, un, un, un, un, un, un, un, un] h) : AC Try.prog 135 [x0, x1] h R :=
  AC_of' (rs := [.tmp 3]) Try.func135 (by kernel_rfl) hd135 Try.ntmps135 rfl H

noncomputable def rg110_0 : Array Oper := rawAt Try.f110 0
-- NO ORDER
/-- (*impl.Plan).formed -/
noncomputable def c110 : IC :=
  (.seq
  (.reg [
    ⟨some 1, .box 92 (.tmp 0), none⟩,
    ⟨some 2, .assign (.const (.bool false)), none⟩])
  (.seq
  (.seq
  (.reg [
    ⟨some 5, .load 92 (.tmp 1), none⟩,
    ⟨some 6, .nilCheck (.tmp 5), none⟩,
    ⟨some 7, .fieldAddr 27 (.tmp 6) 0, none⟩,
    ⟨some 8, .load 3 (.tmp 7), none⟩,
    ⟨some 9, .call { callee := .value (.func 57), args := #[.tmp 8, .const (.int .i64 1), .const (.int .i64 6)], argTypes := #[3, 3, 3] }, none⟩,
    ⟨some 10, .unOp .not 4 (.tmp 9), none⟩,
    ⟨some 11, .move (.tmp 10), none⟩,
    ⟨some 12, .load 92 (.tmp 1), some (11, false)⟩,
    ⟨some 13, .nilCheck (.tmp 12), some (11, false)⟩,
    ⟨some 14, .fieldAddr 27 (.tmp 13) 1, some (11, false)⟩,
    ⟨some 15, .load 24 (.tmp 14), some (11, false)⟩,
    ⟨some 16, .call { callee := .builtin .len, args := #[.tmp 15], argTypes := #[24] }, some (11, false)⟩,
    ⟨some 17, .binOp .gtr 3 (.tmp 16) (.const (.int .i64 40)) 3, some (11, false)⟩,
    ⟨some 18, .pick (.tmp 11) (.const (.bool true)) (.tmp 17), none⟩,
    ⟨some 19, .move (.tmp 18), none⟩,
    ⟨some 20, .load 92 (.tmp 1), some (19, false)⟩,
    ⟨some 21, .nilCheck (.tmp 20), some (19, false)⟩,
    ⟨some 22, .fieldAddr 27 (.tmp 21) 2, some (19, false)⟩,
    ⟨some 23, .load 25 (.tmp 22), some (19, false)⟩,
    ⟨some 24, .call { callee := .builtin .len, args := #[.tmp 23], argTypes := #[25] }, some (19, false)⟩,
    ⟨some 25, .binOp .gtr 3 (.tmp 24) (.const (.int .i64 6)) 3, some (19, false)⟩,
    ⟨some 26, .pick (.tmp 19) (.const (.bool true)) (.tmp 25), none⟩])
  (.cond (.tmp 26)
    (.seq
    (.reg [
      ⟨some 2, .assign (.const (.bool false)), none⟩])
    .ret)
    .skip))
  (.seq
  (.seq
  (.reg [
    ⟨some 27, .load 92 (.tmp 1), none⟩,
    ⟨some 28, .nilCheck (.tmp 27), none⟩,
    ⟨some 29, .fieldAddr 27 (.tmp 28) 1, none⟩,
    ⟨some 30, .load 24 (.tmp 29), none⟩,
    ⟨some 31, .call { callee := .builtin .len, args := #[.tmp 30], argTypes := #[24] }, none⟩,
    ⟨some 32, .move (.const (.int .i64 0)), none⟩])
  (.block 0
  (.loop
    (.seq
    (.reg [
      ⟨some 33, .binOp .lss 3 (.tmp 32) (.tmp 31) 3, none⟩])
    (.seq
    (.cond (.tmp 33)
      .skip
      (.exit 0))
    (.seq
    (.block 1
    (.seq
    (.reg [
      ⟨some 34, .move (.tmp 32), none⟩,
      ⟨some 35, .indexAddr 24 (.tmp 30) (.tmp 32), none⟩,
      ⟨some 36, .load 35 (.tmp 35), none⟩,
      ⟨some 4, .alloc 35, none⟩,
      ⟨some 3, .assign (.tmp 34), none⟩,
      ⟨none, .store 35 (.tmp 4) (.tmp 36), none⟩])
    (.seq
    (.raw (.region 6 rg110_0 true))
    (.cond (.tmp 57)
      (.seq
      (.reg [
        ⟨some 2, .assign (.const (.bool false)), none⟩])
      .ret)
      .skip))))
    (.reg [
      ⟨some 58, .binOp .add 3 (.tmp 32) (.const (.int .i64 1)) 3, none⟩,
      ⟨some 32, .move (.tmp 58), none⟩])))))))
  (.seq
  (.reg [
    ⟨some 59, .load 92 (.tmp 1), none⟩,
    ⟨some 60, .nilCheck (.tmp 59), none⟩,
    ⟨some 61, .fieldAddr 27 (.tmp 60) 2, none⟩,
    ⟨some 62, .load 25 (.tmp 61), none⟩,
    ⟨some 63, .makeFunc (.func 135) #[] #[.tmp 1], none⟩,
    ⟨some 64, .call { callee := .value (.func 120), args := #[.tmp 62, .tmp 63], argTypes := #[25, 103] }, none⟩,
    ⟨some 65, .unOp .not 4 (.tmp 64), none⟩,
    ⟨some 2, .assign (.tmp 65), none⟩])
  .ret))))
theorem hd110 : Try.f110.body.map dec = some c110 := by kernel_rfl
theorem e110 {R : AV → AH → Prop} {h : AH} (x0 : AV) (H : h.wf → AI Try.prog c110 (RetQ Try.prog [.tmp 2] R) [x0, un, un, un, un, un, un, un, un, un, un, un, un, un, un, un, un, un, un, un, un, un, un, un, un, un, un, un, un, un, un, un, un, un, un, un, un, un, un, un, un, un, un, un, un, un, un, un, un, un, un, un, un, un, un, un, un, un, un, un, un, un, un, un, un, un] h) : AC Try.prog 110 [x0] h R :=
  AC_of' (rs := [.tmp 2]) Try.func110 (by kernel_rfl) hd110 Try.ntmps110 rfl H
theorem dz110_0 {h0 : AH} {L : List It} {Q : Exit → List AV → List It → Prop} {a : List AV} {id : Nat} (H : LX Try.prog ⟨[], []⟩ h0 L L (.c (⟨some 37, .fieldAddr 35 (.tmp 4) 0, none⟩, .p) <| .c (⟨some 38, .load 3 (.tmp 37), none⟩, .l) <| .c (⟨some 39, .binOp .lss 3 (.tmp 38) (.const (.int .i64 0)) 3, none⟩, .p) <| .c (⟨some 40, .move (.tmp 39), none⟩, .p) <| .c (⟨some 41, .fieldAddr 35 (.tmp 4) 0, some (40, false)⟩, .p) <| .c (⟨some 42, .load 3 (.tmp 41), some (40, false)⟩, .l) <| .c (⟨some 43, .fieldAddr 35 (.tmp 4) 1, some (40, false)⟩, .p) <| .c (⟨some 44, .load 3 (.tmp 43), some (40, false)⟩, .l) <| .c (⟨some 45, .binOp .gtr 3 (.tmp 42) (.tmp 44) 3, some (40, false)⟩, .p) <| .c (⟨some 46, .pick (.tmp 40) (.const (.bool true)) (.tmp 45), none⟩, .p) <| .c (⟨some 47, .move (.tmp 46), none⟩, .p) <| .c (⟨some 48, .fieldAddr 35 (.tmp 4) 1, some (47, false)⟩, .p) <| .c (⟨some 49, .load 3 (.tmp 48), some (47, false)⟩, .l) <| .c (⟨some 50, .load 92 (.tmp 1), some (47, false)⟩, .l) <| .c (⟨some 51, .nilCheck (.tmp 50), some (47, false)⟩, .p) <| .c (⟨some 52, .fieldAddr 27 (.tmp 51) 0, some (47, false)⟩, .p) <| .c (⟨some 53, .load 3 (.tmp 52), some (47, false)⟩, .l) <| .c (⟨some 54, .move (.tmp 3), some (47, false)⟩, .p) <| .c (⟨some 55, .binOp .add 3 (.tmp 53) (.tmp 54) 3, some (47, false)⟩, .p) <| .c (⟨some 56, .binOp .geq 3 (.tmp 49) (.tmp 55) 3, some (47, false)⟩, .p) <| .c (⟨some 57, .pick (.tmp 47) (.const (.bool true)) (.tmp 56), none⟩, .p) <| .n) Q a) : LI Try.prog h0 L (.raw (.region id rg110_0 true)) Q a :=
  LI_draw (.c (0, .p) <| .c (1, .l) <| .c (2, .p) <| .c (3, .p) <| .c (4, .p) <| .c (5, .l) <| .c (6, .p) <| .c (7, .l) <| .c (8, .p) <| .c (9, .p) <| .c (10, .p) <| .c (11, .p) <| .c (12, .l) <| .c (13, .l) <| .c (14, .p) <| .c (15, .p) <| .c (16, .l) <| .c (17, .p) <| .c (18, .p) <| .c (19, .p) <| .c (20, .p) <| .n) [] (by kernel_rfl) (by kernel_rfl) (by kernel_rfl) H

/-- slices.IndexFunc[[][]int,[]int] -/
def c136 : IC :=
  (.seq
  (.reg [
    ⟨some 4, .assign (.const (.int .i64 0)), none⟩])
  (.seq
  (.seq
  (.reg [
    ⟨some 6, .move (.tmp 0), none⟩,
    ⟨some 7, .call { callee := .builtin .len, args := #[.tmp 6], argTypes := #[77] }, none⟩,
    ⟨some 8, .move (.const (.int .i64 0)), none⟩])
  (.block 0
  (.loop
    (.seq
    (.reg [
      ⟨some 9, .binOp .lss 3 (.tmp 8) (.tmp 7) 3, none⟩])
    (.seq
    (.cond (.tmp 9)
      .skip
      (.exit 0))
    (.seq
    (.block 1
    (.seq
    (.reg [
      ⟨some 10, .move (.tmp 8), none⟩,
      ⟨some 5, .assign (.tmp 10), none⟩])
    (.seq
    (.reg [
      ⟨some 11, .move (.tmp 1), none⟩,
      ⟨some 12, .move (.tmp 0), none⟩,
      ⟨some 13, .move (.tmp 5), none⟩,
      ⟨some 14, .indexAddr 77 (.tmp 12) (.tmp 13), none⟩,
      ⟨some 15, .load 25 (.tmp 14), none⟩,
      ⟨some 16, .call { callee := .value (.tmp 11), args := #[.tmp 15], argTypes := #[25] }, none⟩])
    (.cond (.tmp 16)
      (.seq
      (.reg [
        ⟨some 17, .move (.tmp 5), none⟩,
        ⟨some 4, .assign (.tmp 17), none⟩])
      .ret)
      .skip))))
    (.reg [
      ⟨some 18, .binOp .add 3 (.tmp 8) (.const (.int .i64 1)) 3, none⟩,
      ⟨some 8, .move (.tmp 18), none⟩])))))))
  (.seq
  (.reg [
    ⟨some 4, .assign (.const (.int .i64 (-1))), none⟩])
  .ret)))
theorem hd136 : Try.f136.body.map dec = some c136 := by kernel_rfl
theorem e136 {R : AV → AH → Prop} {h : AH} (x0 x1 : AV) (H : h.wf → AI Try.prog c136 (RetQ Try.prog [.tmp 4] R) [x0, x1, un, un, un, un, un, un, un, un, un, un, un, un, un, un, un, un, un] h) : AC Try.prog 136 [x0, x1] h R :=
  AC_of' (rs := [.tmp 4]) Try.func136 (by kernel_rfl) hd136 Try.ntmps136 rfl H

/-- slices.ContainsFunc[[][]int,[]int] -/
def c111 : IC :=
  (.seq
  (.reg [
    ⟨some 4, .assign (.const (.bool false)), none⟩])
  (.seq
  (.reg [
    ⟨some 5, .move (.tmp 0), none⟩,
    ⟨some 6, .move (.tmp 1), none⟩,
    ⟨some 7, .call { callee := .value (.func 136), args := #[.tmp 5, .tmp 6], argTypes := #[77, 118] }, none⟩,
    ⟨some 8, .binOp .geq 3 (.tmp 7) (.const (.int .i64 0)) 3, none⟩,
    ⟨some 4, .assign (.tmp 8), none⟩])
  .ret))
theorem hd111 : Try.f111.body.map dec = some c111 := by kernel_rfl
theorem e111 {R : AV → AH → Prop} {h : AH} (x0 x1 : AV) (H : h.wf → AI Try.prog c111 (RetQ Try.prog [.tmp 4] R) [x0, x1, un, un, un, un, un, un, un] h) : AC Try.prog 111 [x0, x1] h R :=
  AC_of' (rs := [.tmp 4]) Try.func111 (by kernel_rfl) hd111 Try.ntmps111 rfl H

/-- slices.Max[[]int,int] -/
def c113 : IC :=
  (.seq
  (.reg [
    ⟨some 2, .assign (.const (.int .i64 0)), none⟩])
  (.seq
  (.seq
  (.reg [
    ⟨some 5, .move (.tmp 0), none⟩,
    ⟨some 6, .call { callee := .builtin .len, args := #[.tmp 5], argTypes := #[25] }, none⟩,
    ⟨some 7, .binOp .lss 3 (.tmp 6) (.const (.int .i64 1)) 3, none⟩])
  (.cond (.tmp 7)
    (.reg [
      ⟨some 8, .makeInterface 9 (.const (.string { data := #[115, 108, 105, 99, 101, 115, 46, 77, 97, 120, 58, 32, 101, 109, 112, 116, 121, 32, 108, 105, 115, 116] })), none⟩,
      ⟨none, .panic (.tmp 8), none⟩])
    .skip))
  (.seq
  (.reg [
    ⟨some 9, .move (.tmp 0), none⟩,
    ⟨some 10, .indexAddr 25 (.tmp 9) (.const (.int .i64 0)), none⟩,
    ⟨some 11, .load 3 (.tmp 10), none⟩,
    ⟨some 3, .assign (.tmp 11), none⟩])
  (.seq
  (.seq
  (.reg [
    ⟨some 4, .assign (.const (.int .i64 1)), none⟩])
  (.block 0
  (.loop
    (.seq
    (.seq
    (.reg [
      ⟨some 12, .move (.tmp 4), none⟩,
      ⟨some 13, .move (.tmp 0), none⟩,
      ⟨some 14, .call { callee := .builtin .len, args := #[.tmp 13], argTypes := #[25] }, none⟩,
      ⟨some 15, .binOp .lss 3 (.tmp 12) (.tmp 14) 3, none⟩])
    (.cond (.tmp 15)
      .skip
      (.exit 0)))
    (.seq
    (.block 1
    (.reg [
      ⟨some 18, .move (.tmp 3), none⟩,
      ⟨some 19, .move (.tmp 0), none⟩,
      ⟨some 20, .move (.tmp 4), none⟩,
      ⟨some 21, .indexAddr 25 (.tmp 19) (.tmp 20), none⟩,
      ⟨some 22, .load 3 (.tmp 21), none⟩,
      ⟨some 23, .call { callee := .builtin .max, args := #[.tmp 18, .tmp 22], argTypes := #[3, 3] }, none⟩,
      ⟨some 3, .assign (.tmp 23), none⟩]))
    (.reg [
      ⟨some 16, .move (.tmp 4), none⟩,
      ⟨some 17, .binOp .add 3 (.tmp 16) (.const (.int .i64 1)) 3, none⟩,
      ⟨some 4, .assign (.tmp 17), none⟩]))))))
  (.seq
  (.reg [
    ⟨some 24, .move (.tmp 3), none⟩,
    ⟨some 2, .assign (.tmp 24), none⟩])
  .ret)))))
theorem hd113 : Try.f113.body.map dec = some c113 := by kernel_rfl
theorem e113 {R : AV → AH → Prop} {h : AH} (x0 : AV) (H : h.wf → AI Try.prog c113 (RetQ Try.prog [.tmp 2] R) [x0, un, un, un, un, un, un, un, un, un, un, un, un, un, un, un, un, un, un, un, un, un, un, un, un] h) : AC Try.prog 113 [x0] h R :=
  AC_of' (rs := [.tmp 2]) Try.func113 (by kernel_rfl) hd113 Try.ntmps113 rfl H

/-- impl.IsPlan$1 -/
def c112 : IC :=
  (.seq
  (.reg [
    ⟨some 2, .assign (.const (.bool false)), none⟩])
  (.seq
  (.reg [
    ⟨some 3, .move (.tmp 0), none⟩,
    ⟨some 4, .call { callee := .value (.func 113), args := #[.tmp 3], argTypes := #[25] }, none⟩,
    ⟨some 5, .binOp .gtr 3 (.tmp 4) (.const (.int .i64 1000000)) 3, none⟩,
    ⟨some 2, .assign (.tmp 5), none⟩])
  .ret))
theorem hd112 : Try.f112.body.map dec = some c112 := by kernel_rfl
theorem e112 {R : AV → AH → Prop} {h : AH} (x0 : AV) (H : h.wf → AI Try.prog c112 (RetQ Try.prog [.tmp 2] R) [x0, un, un, un, un, un] h) : AC Try.prog 112 [x0] h R :=
  AC_of' (rs := [.tmp 2]) Try.func112 (by kernel_rfl) hd112 Try.ntmps112 rfl H

/-- impl.IsPlan -/
def c56 : IC :=
  (.seq
  (.reg [
    ⟨some 1, .box 27 (.tmp 0), none⟩,
    ⟨some 2, .assign (.const (.bool false)), none⟩])
  (.seq
  (.reg [
    ⟨some 3, .call { callee := .value (.func 110), args := #[.tmp 1], argTypes := #[27] }, none⟩,
    ⟨some 4, .move (.tmp 3), none⟩,
    ⟨some 5, .call { callee := .value (.func 62), args := #[.tmp 1], argTypes := #[27] }, some (4, true)⟩,
    ⟨some 6, .call { callee := .value (.func 111), args := #[.tmp 5, .func 112], argTypes := #[77, 118] }, some (4, true)⟩,
    ⟨some 7, .unOp .not 4 (.tmp 6), some (4, true)⟩,
    ⟨some 8, .pick (.tmp 4) (.tmp 7) (.const (.bool false)), none⟩,
    ⟨some 2, .assign (.tmp 8), none⟩])
  .ret))
theorem hd56 : Try.f56.body.map dec = some c56 := by kernel_rfl
theorem e56 {R : AV → AH → Prop} {h : AH} (x0 : AV) (H : h.wf → AI Try.prog c56 (RetQ Try.prog [.tmp 2] R) [x0, un, un, un, un, un, un, un, un] h) : AC Try.prog 56 [x0] h R :=
  AC_of' (rs := [.tmp 2]) Try.func56 (by kernel_rfl) hd56 Try.ntmps56 rfl H

/-- impl.orderable -/
def c90 : IC :=
  (.seq
  (.reg [
    ⟨some 1, .box 27 (.tmp 0), none⟩,
    ⟨some 2, .assign (.const (.bool false)), none⟩])
  (.seq
  (.reg [
    ⟨some 3, .load 27 (.tmp 1), none⟩,
    ⟨some 4, .call { callee := .value (.func 56), args := #[.tmp 3], argTypes := #[27] }, none⟩,
    ⟨some 5, .move (.tmp 4), none⟩,
    ⟨some 6, .fieldAddr 27 (.tmp 1) 1, some (5, true)⟩,
    ⟨some 7, .load 24 (.tmp 6), some (5, true)⟩,
    ⟨some 8, .call { callee := .builtin .len, args := #[.tmp 7], argTypes := #[24] }, some (5, true)⟩,
    ⟨some 9, .binOp .leq 3 (.tmp 8) (.const (.int .i64 8)) 3, some (5, true)⟩,
    ⟨some 10, .pick (.tmp 5) (.tmp 9) (.const (.bool false)), none⟩,
    ⟨some 2, .assign (.tmp 10), none⟩])
  .ret))
theorem hd90 : Try.f90.body.map dec = some c90 := by kernel_rfl
theorem e90 {R : AV → AH → Prop} {h : AH} (x0 : AV) (H : h.wf → AI Try.prog c90 (RetQ Try.prog [.tmp 2] R) [x0, un, un, un, un, un, un, un, un, un, un] h) : AC Try.prog 90 [x0] h R :=
  AC_of' (rs := [.tmp 2]) Try.func90 (by kernel_rfl) hd90 Try.ntmps90 rfl H

/-- slices.Index[[]int,int] -/
def c138 : IC :=
  (.seq
  (.reg [
    ⟨some 4, .assign (.const (.int .i64 0)), none⟩])
  (.seq
  (.seq
  (.reg [
    ⟨some 6, .move (.tmp 0), none⟩,
    ⟨some 7, .call { callee := .builtin .len, args := #[.tmp 6], argTypes := #[25] }, none⟩,
    ⟨some 8, .move (.const (.int .i64 0)), none⟩])
  (.block 0
  (.loop
    (.seq
    (.reg [
      ⟨some 9, .binOp .lss 3 (.tmp 8) (.tmp 7) 3, none⟩])
    (.seq
    (.cond (.tmp 9)
      .skip
      (.exit 0))
    (.seq
    (.block 1
    (.seq
    (.reg [
      ⟨some 10, .move (.tmp 8), none⟩,
      ⟨some 5, .assign (.tmp 10), none⟩])
    (.seq
    (.reg [
      ⟨some 11, .move (.tmp 1), none⟩,
      ⟨some 12, .move (.tmp 0), none⟩,
      ⟨some 13, .move (.tmp 5), none⟩,
      ⟨some 14, .indexAddr 25 (.tmp 12) (.tmp 13), none⟩,
      ⟨some 15, .load 3 (.tmp 14), none⟩,
      ⟨some 16, .binOp .eql 3 (.tmp 11) (.tmp 15) 3, none⟩])
    (.cond (.tmp 16)
      (.seq
      (.reg [
        ⟨some 17, .move (.tmp 5), none⟩,
        ⟨some 4, .assign (.tmp 17), none⟩])
      .ret)
      .skip))))
    (.reg [
      ⟨some 18, .binOp .add 3 (.tmp 8) (.const (.int .i64 1)) 3, none⟩,
      ⟨some 8, .move (.tmp 18), none⟩])))))))
  (.seq
  (.reg [
    ⟨some 4, .assign (.const (.int .i64 (-1))), none⟩])
  .ret)))
theorem hd138 : Try.f138.body.map dec = some c138 := by kernel_rfl
theorem e138 {R : AV → AH → Prop} {h : AH} (x0 x1 : AV) (H : h.wf → AI Try.prog c138 (RetQ Try.prog [.tmp 4] R) [x0, x1, un, un, un, un, un, un, un, un, un, un, un, un, un, un, un, un, un] h) : AC Try.prog 138 [x0, x1] h R :=
  AC_of' (rs := [.tmp 4]) Try.func138 (by kernel_rfl) hd138 Try.ntmps138 rfl H

/-- slices.Contains[[]int,int] -/
def c118 : IC :=
  (.seq
  (.reg [
    ⟨some 4, .assign (.const (.bool false)), none⟩])
  (.seq
  (.reg [
    ⟨some 5, .move (.tmp 0), none⟩,
    ⟨some 6, .move (.tmp 1), none⟩,
    ⟨some 7, .call { callee := .value (.func 138), args := #[.tmp 5, .tmp 6], argTypes := #[25, 3] }, none⟩,
    ⟨some 8, .binOp .geq 3 (.tmp 7) (.const (.int .i64 0)) 3, none⟩,
    ⟨some 4, .assign (.tmp 8), none⟩])
  .ret))
theorem hd118 : Try.f118.body.map dec = some c118 := by kernel_rfl
theorem e118 {R : AV → AH → Prop} {h : AH} (x0 x1 : AV) (H : h.wf → AI Try.prog c118 (RetQ Try.prog [.tmp 4] R) [x0, x1, un, un, un, un, un, un, un] h) : AC Try.prog 118 [x0, x1] h R :=
  AC_of' (rs := [.tmp 4]) Try.func118 (by kernel_rfl) hd118 Try.ntmps118 rfl H

noncomputable def rg140_0 : Array Oper := rawAt Try.f140 0
-- NO ORDER
/-- (*impl.Plan).orders$1 -/
noncomputable def c140 : IC :=
  (.seq
  (.reg [
    ⟨some 4, .assign (.const (.bool false)), none⟩])
  (.seq
  (.raw (.region 1 rg140_0 true))
  .ret))
theorem hd140 : Try.f140.body.map dec = some c140 := by kernel_rfl
theorem e140 {R : AV → AH → Prop} {h : AH} (x0 x1 x2 : AV) (H : h.wf → AI Try.prog c140 (RetQ Try.prog [.tmp 4] R) [x0, x1, x2, un, un, un, un, un, un, un, un, un, un, un, un, un, un, un, un, un, un] h) : AC Try.prog 140 [x0, x1, x2] h R :=
  AC_of' (rs := [.tmp 4]) Try.func140 (by kernel_rfl) hd140 Try.ntmps140 rfl H
theorem dz140_0 {h0 : AH} {L : List It} {Q : Exit → List AV → List It → Prop} {a : List AV} {id : Nat} (H : LX Try.prog ⟨[], []⟩ h0 L L (.c (⟨some 5, .move (.tmp 0), none⟩, .p) <| .c (⟨some 6, .load 92 (.tmp 1), none⟩, .l) <| .c (⟨some 7, .nilCheck (.tmp 6), none⟩, .p) <| .c (⟨some 8, .fieldAddr 27 (.tmp 7) 0, none⟩, .p) <| .c (⟨some 9, .load 3 (.tmp 8), none⟩, .l) <| .c (⟨some 10, .binOp .lss 3 (.tmp 5) (.tmp 9) 3, none⟩, .p) <| .c (⟨some 11, .move (.tmp 10), none⟩, .p) <| .c (⟨some 12, .load 25 (.tmp 2), some (11, false)⟩, .l) <| .c (⟨some 13, .move (.tmp 0), some (11, false)⟩, .p) <| .c (⟨some 14, .load 92 (.tmp 1), some (11, false)⟩, .l) <| .c (⟨some 15, .nilCheck (.tmp 14), some (11, false)⟩, .p) <| .c (⟨some 16, .fieldAddr 27 (.tmp 15) 0, some (11, false)⟩, .p) <| .c (⟨some 17, .load 3 (.tmp 16), some (11, false)⟩, .l) <| .c (⟨some 18, .binOp .sub 3 (.tmp 13) (.tmp 17) 3, some (11, false)⟩, .p) <| .c (⟨some 19, .call { callee := .value (.func 118), args := #[.tmp 12, .tmp 18], argTypes := #[25, 3] }, some (11, false)⟩, .e) <| .c (⟨some 20, .pick (.tmp 11) (.const (.bool true)) (.tmp 19), none⟩, .p) <| .c (⟨some 4, .assign (.tmp 20), none⟩, .p) <| .n) Q a) : LI Try.prog h0 L (.raw (.region id rg140_0 true)) Q a :=
  LI_draw (.c (0, .p) <| .c (1, .l) <| .c (2, .p) <| .c (3, .p) <| .c (4, .l) <| .c (5, .p) <| .c (6, .p) <| .c (7, .l) <| .c (8, .p) <| .c (9, .l) <| .c (10, .p) <| .c (11, .p) <| .c (12, .l) <| .c (13, .p) <| .c (14, .e) <| .c (15, .p) <| .c (16, .p) <| .n) [] (by kernel_rfl) (by kernel_rfl) (by kernel_rfl) H
theorem dy140_0 {h0 : AH} {L : List It} {Q : Exit → List AV → List It → Prop} {a : List AV} {id : Nat} (H : LX Try.prog ⟨[14], []⟩ h0 L L (.c (⟨some 5, .move (.tmp 0), none⟩, .p) <| .c (⟨some 6, .load 92 (.tmp 1), none⟩, .l) <| .c (⟨some 7, .nilCheck (.tmp 6), none⟩, .p) <| .c (⟨some 8, .fieldAddr 27 (.tmp 7) 0, none⟩, .p) <| .c (⟨some 9, .load 3 (.tmp 8), none⟩, .l) <| .c (⟨some 10, .binOp .lss 3 (.tmp 5) (.tmp 9) 3, none⟩, .p) <| .c (⟨some 11, .move (.tmp 10), none⟩, .p) <| .c (⟨some 12, .load 25 (.tmp 2), some (11, false)⟩, .l) <| .c (⟨some 13, .move (.tmp 0), some (11, false)⟩, .p) <| .c (⟨some 14, .load 92 (.tmp 1), some (11, false)⟩, .l) <| .c (⟨some 15, .nilCheck (.tmp 14), some (11, false)⟩, .p) <| .c (⟨some 16, .fieldAddr 27 (.tmp 15) 0, some (11, false)⟩, .p) <| .c (⟨some 17, .load 3 (.tmp 16), some (11, false)⟩, .l) <| .c (⟨some 18, .binOp .sub 3 (.tmp 13) (.tmp 17) 3, some (11, false)⟩, .p) <| .c (⟨some 19, .call { callee := .value (.func 118), args := #[.tmp 12, .tmp 18], argTypes := #[25, 3] }, some (11, false)⟩, .f) <| .c (⟨some 20, .pick (.tmp 11) (.const (.bool true)) (.tmp 19), none⟩, .p) <| .c (⟨some 4, .assign (.tmp 20), none⟩, .p) <| .n) Q a) : LI Try.prog h0 L (.raw (.region id rg140_0 true)) Q a :=
  LI_draw (.c (0, .p) <| .c (1, .l) <| .c (2, .p) <| .c (3, .p) <| .c (4, .l) <| .c (5, .p) <| .c (6, .p) <| .c (7, .l) <| .c (8, .p) <| .c (9, .l) <| .c (10, .p) <| .c (11, .p) <| .c (12, .l) <| .c (13, .p) <| .c (14, .f) <| .c (15, .p) <| .c (16, .p) <| .n) [14] (by kernel_rfl) (by kernel_rfl) (by kernel_rfl) H

/-- slices.Clip[[]int,int] -/
def c141 : IC :=
  (.seq
  (.reg [
    ⟨some 2, .assign (.const (.slice none 0 0)), none⟩])
  (.seq
  (.reg [
    ⟨some 3, .move (.tmp 0), none⟩,
    ⟨some 4, .move (.tmp 0), none⟩,
    ⟨some 5, .call { callee := .builtin .len, args := #[.tmp 4], argTypes := #[25] }, none⟩,
    ⟨some 6, .move (.tmp 0), none⟩,
    ⟨some 7, .call { callee := .builtin .len, args := #[.tmp 6], argTypes := #[25] }, none⟩,
    ⟨some 8, .slice 25 (.tmp 3) none (some (.tmp 5)) (some (.tmp 7)), none⟩,
    ⟨some 2, .assign (.tmp 8), none⟩])
  .ret))
theorem hd141 : Try.f141.body.map dec = some c141 := by kernel_rfl
theorem e141 {R : AV → AH → Prop} {h : AH} (x0 : AV) (H : h.wf → AI Try.prog c141 (RetQ Try.prog [.tmp 2] R) [x0, un, un, un, un, un, un, un, un] h) : AC Try.prog 141 [x0] h R :=
  AC_of' (rs := [.tmp 2]) Try.func141 (by kernel_rfl) hd141 Try.ntmps141 rfl H

noncomputable def rg126_0 : Array Oper := rawAt Try.f126 0
noncomputable def rg126_1 : Array Oper := rawAt Try.f126 1
-- NO ORDER
/-- (*impl.Plan).orders -/
noncomputable def c126 : IC :=
  (.seq
  (.reg [
    ⟨some 3, .box 92 (.tmp 0), none⟩,
    ⟨some 4, .box 25 (.tmp 1), none⟩])
  (.seq
  (.seq
  (.raw (.region 1 rg126_0 true))
  (.cond (.tmp 16)
    (.seq
    (.reg [
      ⟨some 17, .move (.tmp 2), none⟩,
      ⟨some 18, .load 25 (.tmp 4), none⟩,
      ⟨some 19, .call { callee := .value (.tmp 17), args := #[.tmp 18], argTypes := #[25] }, none⟩])
    .ret)
    .skip))
  (.seq
  (.reg [
    ⟨some 20, .makeFunc (.func 140) #[] #[.tmp 3, .tmp 4], none⟩,
    ⟨some 6, .assign (.tmp 20), none⟩])
  (.seq
  (.reg [
    ⟨some 21, .load 92 (.tmp 3), none⟩,
    ⟨some 22, .nilCheck (.tmp 21), none⟩,
    ⟨some 23, .fieldAddr 27 (.tmp 22) 1, none⟩,
    ⟨some 24, .load 24 (.tmp 23), none⟩,
    ⟨some 25, .call { callee := .builtin .len, args := #[.tmp 24], argTypes := #[24] }, none⟩,
    ⟨some 26, .move (.const (.int .i64 0)), none⟩])
  (.block 0
  (.loop
    (.seq
    (.reg [
      ⟨some 27, .binOp .lss 3 (.tmp 26) (.tmp 25) 3, none⟩])
    (.seq
    (.cond (.tmp 27)
      .skip
      (.exit 0))
    (.seq
    (.block 1
    (.seq
    (.reg [
      ⟨some 28, .move (.tmp 26), none⟩,
      ⟨some 29, .indexAddr 24 (.tmp 24) (.tmp 26), none⟩,
      ⟨some 30, .load 35 (.tmp 29), none⟩,
      ⟨some 8, .alloc 35, none⟩,
      ⟨some 7, .assign (.tmp 28), none⟩,
      ⟨none, .store 35 (.tmp 8) (.tmp 30), none⟩])
    (.seq
    (.reg [
      ⟨some 31, .load 25 (.tmp 4), none⟩,
      ⟨some 32, .move (.tmp 7), none⟩,
      ⟨some 33, .call { callee := .value (.func 118), args := #[.tmp 31, .tmp 32], argTypes := #[25, 3] }, none⟩,
      ⟨some 34, .unOp .not 4 (.tmp 33), none⟩,
      ⟨some 35, .move (.tmp 34), none⟩,
      ⟨some 36, .move (.tmp 6), some (35, true)⟩,
      ⟨some 37, .fieldAddr 35 (.tmp 8) 0, some (35, true)⟩,
      ⟨some 38, .load 3 (.tmp 37), some (35, true)⟩,
      ⟨some 39, .call { callee := .value (.tmp 36), args := #[.tmp 38], argTypes := #[3] }, some (35, true)⟩,
      ⟨some 40, .pick (.tmp 35) (.tmp 39) (.const (.bool false)), none⟩,
      ⟨some 41, .move (.tmp 40), none⟩,
      ⟨some 42, .move (.tmp 6), some (41, true)⟩,
      ⟨some 43, .fieldAddr 35 (.tmp 8) 1, some (41, true)⟩,
      ⟨some 44, .load 3 (.tmp 43), some (41, true)⟩,
      ⟨some 45, .call { callee := .value (.tmp 42), args := #[.tmp 44], argTypes := #[3] }, some (41, true)⟩,
      ⟨some 46, .pick (.tmp 41) (.tmp 45) (.const (.bool false)), none⟩])
    (.cond (.tmp 46)
      (.raw (.region 8 rg126_1 true))
      .skip))))
    (.reg [
      ⟨some 55, .binOp .add 3 (.tmp 26) (.const (.int .i64 1)) 3, none⟩,
      ⟨some 26, .move (.tmp 55), none⟩]))))))))))
theorem hd126 : Try.f126.body.map dec = some c126 := by kernel_rfl
theorem e126 {R : AV → AH → Prop} {h : AH} (x0 x1 x2 : AV) (H : h.wf → AI Try.prog c126 (RetQ Try.prog [] R) [x0, x1, x2, un, un, un, un, un, un, un, un, un, un, un, un, un, un, un, un, un, un, un, un, un, un, un, un, un, un, un, un, un, un, un, un, un, un, un, un, un, un, un, un, un, un, un, un, un, un, un, un, un, un, un, un, un] h) : AC Try.prog 126 [x0, x1, x2] h R :=
  AC_of' (rs := []) Try.func126 (by kernel_rfl) hd126 Try.ntmps126 rfl H
theorem dz126_0 {h0 : AH} {L : List It} {Q : Exit → List AV → List It → Prop} {a : List AV} {id : Nat} (H : LX Try.prog ⟨[], []⟩ h0 L L (.c (⟨some 9, .load 25 (.tmp 4), none⟩, .l) <| .c (⟨some 10, .call { callee := .builtin .len, args := #[.tmp 9], argTypes := #[25] }, none⟩, .p) <| .c (⟨some 11, .load 92 (.tmp 3), none⟩, .l) <| .c (⟨some 12, .nilCheck (.tmp 11), none⟩, .p) <| .c (⟨some 13, .fieldAddr 27 (.tmp 12) 1, none⟩, .p) <| .c (⟨some 14, .load 24 (.tmp 13), none⟩, .l) <| .c (⟨some 15, .call { callee := .builtin .len, args := #[.tmp 14], argTypes := #[24] }, none⟩, .p) <| .c (⟨some 16, .binOp .eql 3 (.tmp 10) (.tmp 15) 3, none⟩, .p) <| .n) Q a) : LI Try.prog h0 L (.raw (.region id rg126_0 true)) Q a :=
  LI_draw (.c (0, .l) <| .c (1, .p) <| .c (2, .l) <| .c (3, .p) <| .c (4, .p) <| .c (5, .l) <| .c (6, .p) <| .c (7, .p) <| .n) [] (by kernel_rfl) (by kernel_rfl) (by kernel_rfl) H
theorem dr126_0 (m : Nat) {Q : Exit → List AV → AH → Prop} {a : List AV} {h : AH} {id : Nat} (H : AX Try.prog m h [(⟨some 9, .load 25 (.tmp 4), none⟩, true),
  (⟨some 10, .call { callee := .builtin .len, args := #[.tmp 9], argTypes := #[25] }, none⟩, true),
  (⟨some 11, .load 92 (.tmp 3), none⟩, true),
  (⟨some 12, .nilCheck (.tmp 11), none⟩, true),
  (⟨some 13, .fieldAddr 27 (.tmp 12) 1, none⟩, true),
  (⟨some 14, .load 24 (.tmp 13), none⟩, true),
  (⟨some 15, .call { callee := .builtin .len, args := #[.tmp 14], argTypes := #[24] }, none⟩, true),
  (⟨some 16, .binOp .eql 3 (.tmp 10) (.tmp 15) 3, none⟩, true)] (fun a' h' => Q .normal a' h') a h) : AI Try.prog (.raw (.region id rg126_0 true)) Q a h :=
  AI_draw [(0, true), (1, true), (2, true), (3, true), (4, true), (5, true), (6, true), (7, true)] m (by kernel_rfl) (by kernel_rfl) (by kernel_rfl) H
theorem dk126_1 {h0 : AH} {L : List It} {Q : Exit → List AV → List It → Prop} {a : List AV} {id : Nat} (K : List (Nat × List AV)) (hK : ∀ x ∈ K, It.pt x.1 x.2 ∈ L) (H : LX Try.prog ⟨[5], K⟩ h0 L L (.c (⟨some 48, .load 25 (.tmp 4), none⟩, .l) <| .c (⟨some 50, .move (.tmp 7), none⟩, .p) <| .c (⟨some 53, .move (.tmp 2), none⟩, .p) <| .t (.c (⟨some 47, .load 92 (.tmp 3), none⟩, .e) <| .t (.c (⟨some 49, .call { callee := .value (.func 141), args := #[.tmp 48], argTypes := #[25] }, none⟩, .e) <| .c (⟨some 51, .buildSlice 25 1 #[(0, .tmp 50)], none⟩, .e) <| .c (⟨some 52, .call { callee := .builtin .append, args := #[.tmp 49, .tmp 51], argTypes := #[25, 25] }, none⟩, .f) <| .c (⟨some 54, .call { callee := .value (.func 126), args := #[.tmp 47, .tmp 52, .tmp 53], argTypes := #[92, 25, 126] }, none⟩, .e) <| .n) (.c (⟨some 51, .buildSlice 25 1 #[(0, .tmp 50)], none⟩, .e) <| .c (⟨some 49, .call { callee := .value (.func 141), args := #[.tmp 48], argTypes := #[25] }, none⟩, .e) <| .c (⟨some 52, .call { callee := .builtin .append, args := #[.tmp 49, .tmp 51], argTypes := #[25, 25] }, none⟩, .f) <| .c (⟨some 54, .call { callee := .value (.func 126), args := #[.tmp 47, .tmp 52, .tmp 53], argTypes := #[92, 25, 126] }, none⟩, .e) <| .n)) (.t (.c (⟨some 49, .call { callee := .value (.func 141), args := #[.tmp 48], argTypes := #[25] }, none⟩, .e) <| .t (.c (⟨some 47, .load 92 (.tmp 3), none⟩, .e) <| .c (⟨some 51, .buildSlice 25 1 #[(0, .tmp 50)], none⟩, .e) <| .c (⟨some 52, .call { callee := .builtin .append, args := #[.tmp 49, .tmp 51], argTypes := #[25, 25] }, none⟩, .f) <| .c (⟨some 54, .call { callee := .value (.func 126), args := #[.tmp 47, .tmp 52, .tmp 53], argTypes := #[92, 25, 126] }, none⟩, .e) <| .n) (.c (⟨some 51, .buildSlice 25 1 #[(0, .tmp 50)], none⟩, .e) <| .t (.c (⟨some 47, .load 92 (.tmp 3), none⟩, .e) <| .c (⟨some 52, .call { callee := .builtin .append, args := #[.tmp 49, .tmp 51], argTypes := #[25, 25] }, none⟩, .f) <| .c (⟨some 54, .call { callee := .value (.func 126), args := #[.tmp 47, .tmp 52, .tmp 53], argTypes := #[92, 25, 126] }, none⟩, .e) <| .n) (.c (⟨some 52, .call { callee := .builtin .append, args := #[.tmp 49, .tmp 51], argTypes := #[25, 25] }, none⟩, .f) <| .c (⟨some 47, .load 92 (.tmp 3), none⟩, .e) <| .c (⟨some 54, .call { callee := .value (.func 126), args := #[.tmp 47, .tmp 52, .tmp 53], argTypes := #[92, 25, 126] }, none⟩, .e) <| .n))) (.c (⟨some 51, .buildSlice 25 1 #[(0, .tmp 50)], none⟩, .e) <| .t (.c (⟨some 47, .load 92 (.tmp 3), none⟩, .e) <| .c (⟨some 49, .call { callee := .value (.func 141), args := #[.tmp 48], argTypes := #[25] }, none⟩, .e) <| .c (⟨some 52, .call { callee := .builtin .append, args := #[.tmp 49, .tmp 51], argTypes := #[25, 25] }, none⟩, .f) <| .c (⟨some 54, .call { callee := .value (.func 126), args := #[.tmp 47, .tmp 52, .tmp 53], argTypes := #[92, 25, 126] }, none⟩, .e) <| .n) (.c (⟨some 49, .call { callee := .value (.func 141), args := #[.tmp 48], argTypes := #[25] }, none⟩, .e) <| .t (.c (⟨some 47, .load 92 (.tmp 3), none⟩, .e) <| .c (⟨some 52, .call { callee := .builtin .append, args := #[.tmp 49, .tmp 51], argTypes := #[25, 25] }, none⟩, .f) <| .c (⟨some 54, .call { callee := .value (.func 126), args := #[.tmp 47, .tmp 52, .tmp 53], argTypes := #[92, 25, 126] }, none⟩, .e) <| .n) (.c (⟨some 52, .call { callee := .builtin .append, args := #[.tmp 49, .tmp 51], argTypes := #[25, 25] }, none⟩, .f) <| .c (⟨some 47, .load 92 (.tmp 3), none⟩, .e) <| .c (⟨some 54, .call { callee := .value (.func 126), args := #[.tmp 47, .tmp 52, .tmp 53], argTypes := #[92, 25, 126] }, none⟩, .e) <| .n))))) Q a) : LI Try.prog h0 L (.raw (.region id rg126_1 true)) Q a :=
  LI_drawK (.c (1, .l) <| .c (3, .p) <| .c (6, .p) <| .t (.c (0, .e) <| .t (.c (2, .e) <| .c (4, .e) <| .c (5, .f) <| .c (7, .e) <| .n) (.c (4, .e) <| .c (2, .e) <| .c (5, .f) <| .c (7, .e) <| .n)) (.t (.c (2, .e) <| .t (.c (0, .e) <| .c (4, .e) <| .c (5, .f) <| .c (7, .e) <| .n) (.c (4, .e) <| .t (.c (0, .e) <| .c (5, .f) <| .c (7, .e) <| .n) (.c (5, .f) <| .c (0, .e) <| .c (7, .e) <| .n))) (.c (4, .e) <| .t (.c (0, .e) <| .c (2, .e) <| .c (5, .f) <| .c (7, .e) <| .n) (.c (2, .e) <| .t (.c (0, .e) <| .c (5, .f) <| .c (7, .e) <| .n) (.c (5, .f) <| .c (0, .e) <| .c (7, .e) <| .n))))) [5] K hK (by kernel_rfl) (by kernel_rfl) (by kernel_rfl) H
theorem dl126_1 {h0 : AH} {L : List It} {Q : Exit → List AV → List It → Prop} {a : List AV} {id : Nat} (K : List (Nat × List AV)) (hK : ∀ x ∈ K, It.pt x.1 x.2 ∈ L) (H : LX Try.prog ⟨[5, 7], K⟩ h0 L L (.c (⟨some 48, .load 25 (.tmp 4), none⟩, .l) <| .c (⟨some 50, .move (.tmp 7), none⟩, .p) <| .c (⟨some 53, .move (.tmp 2), none⟩, .p) <| .t (.c (⟨some 47, .load 92 (.tmp 3), none⟩, .e) <| .t (.c (⟨some 49, .call { callee := .value (.func 141), args := #[.tmp 48], argTypes := #[25] }, none⟩, .e) <| .c (⟨some 51, .buildSlice 25 1 #[(0, .tmp 50)], none⟩, .e) <| .c (⟨some 52, .call { callee := .builtin .append, args := #[.tmp 49, .tmp 51], argTypes := #[25, 25] }, none⟩, .f) <| .c (⟨some 54, .call { callee := .value (.func 126), args := #[.tmp 47, .tmp 52, .tmp 53], argTypes := #[92, 25, 126] }, none⟩, .f) <| .n) (.c (⟨some 51, .buildSlice 25 1 #[(0, .tmp 50)], none⟩, .e) <| .c (⟨some 49, .call { callee := .value (.func 141), args := #[.tmp 48], argTypes := #[25] }, none⟩, .e) <| .c (⟨some 52, .call { callee := .builtin .append, args := #[.tmp 49, .tmp 51], argTypes := #[25, 25] }, none⟩, .f) <| .c (⟨some 54, .call { callee := .value (.func 126), args := #[.tmp 47, .tmp 52, .tmp 53], argTypes := #[92, 25, 126] }, none⟩, .f) <| .n)) (.t (.c (⟨some 49, .call { callee := .value (.func 141), args := #[.tmp 48], argTypes := #[25] }, none⟩, .e) <| .t (.c (⟨some 47, .load 92 (.tmp 3), none⟩, .e) <| .c (⟨some 51, .buildSlice 25 1 #[(0, .tmp 50)], none⟩, .e) <| .c (⟨some 52, .call { callee := .builtin .append, args := #[.tmp 49, .tmp 51], argTypes := #[25, 25] }, none⟩, .f) <| .c (⟨some 54, .call { callee := .value (.func 126), args := #[.tmp 47, .tmp 52, .tmp 53], argTypes := #[92, 25, 126] }, none⟩, .f) <| .n) (.c (⟨some 51, .buildSlice 25 1 #[(0, .tmp 50)], none⟩, .e) <| .t (.c (⟨some 47, .load 92 (.tmp 3), none⟩, .e) <| .c (⟨some 52, .call { callee := .builtin .append, args := #[.tmp 49, .tmp 51], argTypes := #[25, 25] }, none⟩, .f) <| .c (⟨some 54, .call { callee := .value (.func 126), args := #[.tmp 47, .tmp 52, .tmp 53], argTypes := #[92, 25, 126] }, none⟩, .f) <| .n) (.c (⟨some 52, .call { callee := .builtin .append, args := #[.tmp 49, .tmp 51], argTypes := #[25, 25] }, none⟩, .f) <| .c (⟨some 47, .load 92 (.tmp 3), none⟩, .e) <| .c (⟨some 54, .call { callee := .value (.func 126), args := #[.tmp 47, .tmp 52, .tmp 53], argTypes := #[92, 25, 126] }, none⟩, .f) <| .n))) (.c (⟨some 51, .buildSlice 25 1 #[(0, .tmp 50)], none⟩, .e) <| .t (.c (⟨some 47, .load 92 (.tmp 3), none⟩, .e) <| .c (⟨some 49, .call { callee := .value (.func 141), args := #[.tmp 48], argTypes := #[25] }, none⟩, .e) <| .c (⟨some 52, .call { callee := .builtin .append, args := #[.tmp 49, .tmp 51], argTypes := #[25, 25] }, none⟩, .f) <| .c (⟨some 54, .call { callee := .value (.func 126), args := #[.tmp 47, .tmp 52, .tmp 53], argTypes := #[92, 25, 126] }, none⟩, .f) <| .n) (.c (⟨some 49, .call { callee := .value (.func 141), args := #[.tmp 48], argTypes := #[25] }, none⟩, .e) <| .t (.c (⟨some 47, .load 92 (.tmp 3), none⟩, .e) <| .c (⟨some 52, .call { callee := .builtin .append, args := #[.tmp 49, .tmp 51], argTypes := #[25, 25] }, none⟩, .f) <| .c (⟨some 54, .call { callee := .value (.func 126), args := #[.tmp 47, .tmp 52, .tmp 53], argTypes := #[92, 25, 126] }, none⟩, .f) <| .n) (.c (⟨some 52, .call { callee := .builtin .append, args := #[.tmp 49, .tmp 51], argTypes := #[25, 25] }, none⟩, .f) <| .c (⟨some 47, .load 92 (.tmp 3), none⟩, .e) <| .c (⟨some 54, .call { callee := .value (.func 126), args := #[.tmp 47, .tmp 52, .tmp 53], argTypes := #[92, 25, 126] }, none⟩, .f) <| .n))))) Q a) : LI Try.prog h0 L (.raw (.region id rg126_1 true)) Q a :=
  LI_drawK (.c (1, .l) <| .c (3, .p) <| .c (6, .p) <| .t (.c (0, .e) <| .t (.c (2, .e) <| .c (4, .e) <| .c (5, .f) <| .c (7, .f) <| .n) (.c (4, .e) <| .c (2, .e) <| .c (5, .f) <| .c (7, .f) <| .n)) (.t (.c (2, .e) <| .t (.c (0, .e) <| .c (4, .e) <| .c (5, .f) <| .c (7, .f) <| .n) (.c (4, .e) <| .t (.c (0, .e) <| .c (5, .f) <| .c (7, .f) <| .n) (.c (5, .f) <| .c (0, .e) <| .c (7, .f) <| .n))) (.c (4, .e) <| .t (.c (0, .e) <| .c (2, .e) <| .c (5, .f) <| .c (7, .f) <| .n) (.c (2, .e) <| .t (.c (0, .e) <| .c (5, .f) <| .c (7, .f) <| .n) (.c (5, .f) <| .c (0, .e) <| .c (7, .f) <| .n))))) [5, 7] K hK (by kernel_rfl) (by kernel_rfl) (by kernel_rfl) H

noncomputable def rg86_0 : Array Oper := rawAt Try.f86 0
noncomputable def rg86_1 : Array Oper := rawAt Try.f86 1
-- NO ORDER
/-- (*impl.Plan).needed -/
noncomputable def c86 : IC :=
  (.seq
  (.reg [
    ⟨some 4, .assign (.const (.slice none 0 0)), none⟩])
  (.seq
  (.reg [
    ⟨some 12, .move (.tmp 0), none⟩,
    ⟨some 13, .call { callee := .value (.func 58), args := #[.tmp 12], argTypes := #[92] }, none⟩,
    ⟨some 14, .makeSlice 97 (.tmp 13) (.tmp 13), none⟩,
    ⟨some 5, .assign (.tmp 14), none⟩])
  (.seq
  (.seq
  (.reg [
    ⟨some 15, .move (.tmp 0), none⟩,
    ⟨some 16, .nilCheck (.tmp 15), none⟩,
    ⟨some 17, .fieldAddr 27 (.tmp 16) 2, none⟩,
    ⟨some 18, .load 25 (.tmp 17), none⟩,
    ⟨some 19, .call { callee := .builtin .len, args := #[.tmp 18], argTypes := #[25] }, none⟩,
    ⟨some 20, .move (.const (.int .i64 0)), none⟩])
  (.block 0
  (.loop
    (.seq
    (.reg [
      ⟨some 21, .binOp .lss 3 (.tmp 20) (.tmp 19) 3, none⟩])
    (.seq
    (.cond (.tmp 21)
      .skip
      (.exit 0))
    (.seq
    (.block 1
    (.seq
    (.reg [
      ⟨some 22, .indexAddr 25 (.tmp 18) (.tmp 20), none⟩,
      ⟨some 23, .load 3 (.tmp 22), none⟩,
      ⟨some 7, .assign (.tmp 23), none⟩])
    (.reg [
      ⟨some 24, .move (.tmp 5), none⟩,
      ⟨some 25, .move (.tmp 7), none⟩,
      ⟨some 26, .indexAddr 97 (.tmp 24) (.tmp 25), none⟩,
      ⟨none, .store 4 (.tmp 26) (.const (.bool true)), none⟩])))
    (.reg [
      ⟨some 27, .binOp .add 3 (.tmp 20) (.const (.int .i64 1)) 3, none⟩,
      ⟨some 20, .move (.tmp 27), none⟩])))))))
  (.seq
  (.seq
  (.reg [
    ⟨some 28, .move (.tmp 0), none⟩,
    ⟨some 29, .nilCheck (.tmp 28), none⟩,
    ⟨some 30, .fieldAddr 27 (.tmp 29) 1, none⟩,
    ⟨some 31, .load 24 (.tmp 30), none⟩,
    ⟨some 32, .call { callee := .builtin .len, args := #[.tmp 31], argTypes := #[24] }, none⟩,
    ⟨some 33, .move (.const (.int .i64 0)), none⟩])
  (.block 2
  (.loop
    (.seq
    (.reg [
      ⟨some 34, .binOp .lss 3 (.tmp 33) (.tmp 32) 3, none⟩])
    (.seq
    (.cond (.tmp 34)
      .skip
      (.exit 2))
    (.seq
    (.block 3
    (.seq
    (.reg [
      ⟨some 35, .move (.tmp 33), none⟩,
      ⟨some 36, .indexAddr 24 (.tmp 31) (.tmp 33), none⟩,
      ⟨some 37, .load 35 (.tmp 36), none⟩,
      ⟨some 9, .alloc 35, none⟩,
      ⟨some 8, .assign (.tmp 35), none⟩,
      ⟨none, .store 35 (.tmp 9) (.tmp 37), none⟩])
    (.seq
    (.reg [
      ⟨some 38, .move (.tmp 1), none⟩,
      ⟨some 39, .move (.tmp 8), none⟩,
      ⟨some 40, .indexAddr 97 (.tmp 38) (.tmp 39), none⟩,
      ⟨some 41, .load 4 (.tmp 40), none⟩,
      ⟨some 42, .unOp .not 4 (.tmp 41), none⟩])
    (.cond (.tmp 42)
      (.raw (.region 11 rg86_0 true))
      .skip))))
    (.reg [
      ⟨some 51, .binOp .add 3 (.tmp 33) (.const (.int .i64 1)) 3, none⟩,
      ⟨some 33, .move (.tmp 51), none⟩])))))))
  (.seq
  (.seq
  (.reg [
    ⟨some 52, .move (.tmp 1), none⟩,
    ⟨some 53, .call { callee := .builtin .len, args := #[.tmp 52], argTypes := #[97] }, none⟩,
    ⟨some 54, .move (.const (.int .i64 0)), none⟩])
  (.block 4
  (.loop
    (.seq
    (.reg [
      ⟨some 55, .binOp .lss 3 (.tmp 54) (.tmp 53) 3, none⟩])
    (.seq
    (.cond (.tmp 55)
      .skip
      (.exit 4))
    (.seq
    (.block 5
    (.seq
    (.reg [
      ⟨some 56, .move (.tmp 54), none⟩,
      ⟨some 57, .indexAddr 97 (.tmp 52) (.tmp 54), none⟩,
      ⟨some 58, .load 4 (.tmp 57), none⟩,
      ⟨some 10, .assign (.tmp 56), none⟩,
      ⟨some 11, .assign (.tmp 58), none⟩])
    (.raw (.region 16 rg86_1 true))))
    (.reg [
      ⟨some 79, .binOp .add 3 (.tmp 54) (.const (.int .i64 1)) 3, none⟩,
      ⟨some 54, .move (.tmp 79), none⟩])))))))
  (.seq
  (.reg [
    ⟨some 80, .move (.tmp 5), none⟩,
    ⟨some 4, .assign (.tmp 80), none⟩])
  .ret))))))
theorem hd86 : Try.f86.body.map dec = some c86 := by kernel_rfl
theorem e86 {R : AV → AH → Prop} {h : AH} (x0 x1 : AV) (H : h.wf → AI Try.prog c86 (RetQ Try.prog [.tmp 4] R) [x0, x1, un, un, un, un, un, un, un, un, un, un, un, un, un, un, un, un, un, un, un, un, un, un, un, un, un, un, un, un, un, un, un, un, un, un, un, un, un, un, un, un, un, un, un, un, un, un, un, un, un, un, un, un, un, un, un, un, un, un, un, un, un, un, un, un, un, un, un, un, un, un, un, un, un, un, un, un, un, un, un] h) : AC Try.prog 86 [x0, x1] h R :=
  AC_of' (rs := [.tmp 4]) Try.func86 (by kernel_rfl) hd86 Try.ntmps86 rfl H
theorem dk86_0 {h0 : AH} {L : List It} {Q : Exit → List AV → List It → Prop} {a : List AV} {id : Nat} (K : List (Nat × List AV)) (hK : ∀ x ∈ K, It.pt x.1 x.2 ∈ L) (H : LX Try.prog ⟨[7, 9], K⟩ h0 L L (.c (⟨some 43, .move (.tmp 5), none⟩, .p) <| .c (⟨some 44, .fieldAddr 35 (.tmp 9) 0, none⟩, .p) <| .c (⟨some 45, .load 3 (.tmp 44), none⟩, .l) <| .c (⟨some 46, .move (.tmp 5), none⟩, .p) <| .c (⟨some 47, .fieldAddr 35 (.tmp 9) 1, none⟩, .p) <| .c (⟨some 48, .load 3 (.tmp 47), none⟩, .kp) <| .c (⟨some 49, .indexAddr 97 (.tmp 43) (.tmp 45), none⟩, .p) <| .c (⟨none, .store 4 (.tmp 49) (.const (.bool true)), none⟩, .f) <| .c (⟨some 50, .indexAddr 97 (.tmp 46) (.tmp 48), none⟩, .p) <| .c (⟨none, .store 4 (.tmp 50) (.const (.bool true)), none⟩, .f) <| .n) Q a) : LI Try.prog h0 L (.raw (.region id rg86_0 true)) Q a :=
  LI_drawK (.c (0, .p) <| .c (1, .p) <| .c (2, .l) <| .c (3, .p) <| .c (4, .p) <| .c (5, .kp) <| .c (6, .p) <| .c (7, .f) <| .c (8, .p) <| .c (9, .f) <| .n) [7, 9] K hK (by kernel_rfl) (by kernel_rfl) (by kernel_rfl) H
theorem dr86_0 (m : Nat) {Q : Exit → List AV → AH → Prop} {a : List AV} {h : AH} {id : Nat} (H : AX Try.prog m h [(⟨some 43, .move (.tmp 5), none⟩, true),
  (⟨some 44, .fieldAddr 35 (.tmp 9) 0, none⟩, true),
  (⟨some 45, .load 3 (.tmp 44), none⟩, true),
  (⟨some 46, .move (.tmp 5), none⟩, true),
  (⟨some 47, .fieldAddr 35 (.tmp 9) 1, none⟩, true),
  (⟨some 48, .load 3 (.tmp 47), none⟩, true),
  (⟨some 49, .indexAddr 97 (.tmp 43) (.tmp 45), none⟩, true),
  (⟨none, .store 4 (.tmp 49) (.const (.bool true)), none⟩, false),
  (⟨some 50, .indexAddr 97 (.tmp 46) (.tmp 48), none⟩, true),
  (⟨none, .store 4 (.tmp 50) (.const (.bool true)), none⟩, false)] (fun a' h' => Q .normal a' h') a h) : AI Try.prog (.raw (.region id rg86_0 true)) Q a h :=
  AI_draw [(0, true), (1, true), (2, true), (3, true), (4, true), (5, true), (6, true), (7, false), (8, true), (9, false)] m (by kernel_rfl) (by kernel_rfl) (by kernel_rfl) H
theorem dz86_1 {h0 : AH} {L : List It} {Q : Exit → List AV → List It → Prop} {a : List AV} {id : Nat} (H : LX Try.prog ⟨[20], []⟩ h0 L L (.c (⟨some 59, .move (.tmp 5), none⟩, .p) <| .c (⟨some 60, .move (.tmp 0), none⟩, .p) <| .c (⟨some 61, .nilCheck (.tmp 60), none⟩, .p) <| .c (⟨some 62, .fieldAddr 27 (.tmp 61) 0, none⟩, .p) <| .c (⟨some 63, .load 3 (.tmp 62), none⟩, .l) <| .c (⟨some 64, .move (.tmp 10), none⟩, .p) <| .c (⟨some 65, .binOp .add 3 (.tmp 63) (.tmp 64) 3, none⟩, .p) <| .c (⟨some 66, .move (.tmp 5), none⟩, .p) <| .c (⟨some 67, .move (.tmp 0), none⟩, .p) <| .c (⟨some 68, .nilCheck (.tmp 67), none⟩, .p) <| .c (⟨some 69, .fieldAddr 27 (.tmp 68) 0, none⟩, .p) <| .c (⟨some 70, .load 3 (.tmp 69), none⟩, .l) <| .c (⟨some 71, .move (.tmp 10), none⟩, .p) <| .c (⟨some 72, .binOp .add 3 (.tmp 70) (.tmp 71) 3, none⟩, .p) <| .c (⟨some 73, .indexAddr 97 (.tmp 66) (.tmp 72), none⟩, .p) <| .c (⟨some 74, .load 4 (.tmp 73), none⟩, .l) <| .c (⟨some 75, .move (.tmp 74), none⟩, .p) <| .c (⟨some 76, .move (.tmp 11), some (75, true)⟩, .p) <| .c (⟨some 77, .pick (.tmp 75) (.tmp 76) (.const (.bool false)), none⟩, .p) <| .c (⟨some 78, .indexAddr 97 (.tmp 59) (.tmp 65), none⟩, .p) <| .c (⟨none, .store 4 (.tmp 78) (.tmp 77), none⟩, .f) <| .n) Q a) : LI Try.prog h0 L (.raw (.region id rg86_1 true)) Q a :=
  LI_draw (.c (0, .p) <| .c (1, .p) <| .c (2, .p) <| .c (3, .p) <| .c (4, .l) <| .c (5, .p) <| .c (6, .p) <| .c (7, .p) <| .c (8, .p) <| .c (9, .p) <| .c (10, .p) <| .c (11, .l) <| .c (12, .p) <| .c (13, .p) <| .c (14, .p) <| .c (15, .l) <| .c (16, .p) <| .c (17, .p) <| .c (18, .p) <| .c (19, .p) <| .c (20, .f) <| .n) [20] (by kernel_rfl) (by kernel_rfl) (by kernel_rfl) H

/-- (*impl.Plan).held -/
def c128 : IC :=
  (.seq
  (.reg [
    ⟨some 6, .assign (.const (.int .i64 0)), none⟩])
  (.seq
  (.reg [
    ⟨some 11, .move (.tmp 0), none⟩,
    ⟨some 12, .move (.tmp 1), none⟩,
    ⟨some 13, .call { callee := .value (.func 86), args := #[.tmp 11, .tmp 12], argTypes := #[92, 97] }, none⟩,
    ⟨some 7, .assign (.tmp 13), none⟩,
    ⟨some 8, .assign (.const (.int .i64 0)), none⟩])
  (.seq
  (.reg [
    ⟨some 14, .move (.tmp 7), none⟩,
    ⟨some 15, .move (.tmp 0), none⟩,
    ⟨some 16, .nilCheck (.tmp 15), none⟩,
    ⟨some 17, .fieldAddr 27 (.tmp 16) 0, none⟩,
    ⟨some 18, .load 3 (.tmp 17), none⟩,
    ⟨some 19, .move (.tmp 2), none⟩,
    ⟨some 20, .binOp .add 3 (.tmp 18) (.tmp 19) 3, none⟩,
    ⟨some 21, .indexAddr 97 (.tmp 14) (.tmp 20), none⟩,
    ⟨none, .store 4 (.tmp 21) (.const (.bool true)), none⟩])
  (.seq
  (.seq
  (.reg [
    ⟨some 22, .move (.tmp 7), none⟩,
    ⟨some 23, .call { callee := .builtin .len, args := #[.tmp 22], argTypes := #[97] }, none⟩,
    ⟨some 24, .move (.const (.int .i64 0)), none⟩])
  (.block 0
  (.loop
    (.seq
    (.reg [
      ⟨some 25, .binOp .lss 3 (.tmp 24) (.tmp 23) 3, none⟩])
    (.seq
    (.cond (.tmp 25)
      .skip
      (.exit 0))
    (.seq
    (.block 1
    (.seq
    (.reg [
      ⟨some 26, .indexAddr 97 (.tmp 22) (.tmp 24), none⟩,
      ⟨some 27, .load 4 (.tmp 26), none⟩,
      ⟨some 10, .assign (.tmp 27), none⟩])
    (.seq
    (.reg [
      ⟨some 28, .move (.tmp 10), none⟩])
    (.cond (.tmp 28)
      (.reg [
        ⟨some 29, .move (.tmp 8), none⟩,
        ⟨some 30, .binOp .add 3 (.tmp 29) (.const (.int .i64 1)) 3, none⟩,
        ⟨some 8, .assign (.tmp 30), none⟩])
      .skip))))
    (.reg [
      ⟨some 31, .binOp .add 3 (.tmp 24) (.const (.int .i64 1)) 3, none⟩,
      ⟨some 24, .move (.tmp 31), none⟩])))))))
  (.seq
  (.reg [
    ⟨some 32, .move (.tmp 8), none⟩,
    ⟨some 6, .assign (.tmp 32), none⟩])
  .ret)))))
theorem hd128 : Try.f128.body.map dec = some c128 := by kernel_rfl
theorem e128 {R : AV → AH → Prop} {h : AH} (x0 x1 x2 : AV) (H : h.wf → AI Try.prog c128 (RetQ Try.prog [.tmp 6] R) [x0, x1, x2, un, un, un, un, un, un, un, un, un, un, un, un, un, un, un, un, un, un, un, un, un, un, un, un, un, un, un, un, un, un] h) : AC Try.prog 128 [x0, x1, x2] h R :=
  AC_of' (rs := [.tmp 6]) Try.func128 (by kernel_rfl) hd128 Try.ntmps128 rfl H

noncomputable def rg93_0 : Array Oper := rawAt Try.f93 0
/-- (*impl.Plan).pressure -/
noncomputable def c93 : IC :=
  (.seq
  (.reg [
    ⟨some 4, .assign (.const (.int .i64 0)), none⟩])
  (.seq
  (.raw (.region 1 rg93_0 true))
  (.seq
  (.seq
  (.reg [
    ⟨some 19, .move (.tmp 1), none⟩,
    ⟨some 20, .call { callee := .builtin .len, args := #[.tmp 19], argTypes := #[25] }, none⟩,
    ⟨some 21, .move (.const (.int .i64 0)), none⟩])
  (.block 0
  (.loop
    (.seq
    (.reg [
      ⟨some 22, .binOp .lss 3 (.tmp 21) (.tmp 20) 3, none⟩])
    (.seq
    (.cond (.tmp 22)
      .skip
      (.exit 0))
    (.seq
    (.block 1
    (.seq
    (.reg [
      ⟨some 23, .indexAddr 25 (.tmp 19) (.tmp 21), none⟩,
      ⟨some 24, .load 3 (.tmp 23), none⟩,
      ⟨some 8, .assign (.tmp 24), none⟩])
    (.seq
    (.reg [
      ⟨some 25, .move (.tmp 6), none⟩,
      ⟨some 26, .move (.tmp 8), none⟩,
      ⟨some 27, .indexAddr 97 (.tmp 25) (.tmp 26), none⟩,
      ⟨none, .store 4 (.tmp 27) (.const (.bool true)), none⟩])
    (.reg [
      ⟨some 28, .move (.tmp 5), none⟩,
      ⟨some 29, .move (.tmp 0), none⟩,
      ⟨some 30, .move (.tmp 6), none⟩,
      ⟨some 31, .move (.tmp 8), none⟩,
      ⟨some 32, .call { callee := .value (.func 128), args := #[.tmp 29, .tmp 30, .tmp 31], argTypes := #[92, 97, 3] }, none⟩,
      ⟨some 33, .call { callee := .builtin .max, args := #[.tmp 28, .tmp 32], argTypes := #[3, 3] }, none⟩,
      ⟨some 5, .assign (.tmp 33), none⟩]))))
    (.reg [
      ⟨some 34, .binOp .add 3 (.tmp 21) (.const (.int .i64 1)) 3, none⟩,
      ⟨some 21, .move (.tmp 34), none⟩])))))))
  (.seq
  (.reg [
    ⟨some 35, .move (.tmp 5), none⟩,
    ⟨some 4, .assign (.tmp 35), none⟩])
  .ret))))
theorem hd93 : Try.f93.body.map dec = some c93 := by kernel_rfl
theorem e93 {R : AV → AH → Prop} {h : AH} (x0 x1 : AV) (H : h.wf → AI Try.prog c93 (RetQ Try.prog [.tmp 4] R) [x0, x1, un, un, un, un, un, un, un, un, un, un, un, un, un, un, un, un, un, un, un, un, un, un, un, un, un, un, un, un, un, un, un, un, un, un] h) : AC Try.prog 93 [x0, x1] h R :=
  AC_of' (rs := [.tmp 4]) Try.func93 (by kernel_rfl) hd93 Try.ntmps93 rfl H
theorem dz93_0 {h0 : AH} {L : List It} {Q : Exit → List AV → List It → Prop} {a : List AV} {id : Nat} (H : LX Try.prog ⟨[], []⟩ h0 L L (.c (⟨some 9, .move (.tmp 0), none⟩, .p) <| .c (⟨some 10, .nilCheck (.tmp 9), none⟩, .p) <| .c (⟨some 11, .fieldAddr 27 (.tmp 10) 0, none⟩, .p) <| .c (⟨some 12, .load 3 (.tmp 11), none⟩, .l) <| .c (⟨some 13, .move (.tmp 0), none⟩, .p) <| .c (⟨some 14, .nilCheck (.tmp 13), none⟩, .p) <| .c (⟨some 15, .fieldAddr 27 (.tmp 14) 1, none⟩, .p) <| .c (⟨some 16, .load 24 (.tmp 15), none⟩, .l) <| .c (⟨some 17, .call { callee := .builtin .len, args := #[.tmp 16], argTypes := #[24] }, none⟩, .p) <| .c (⟨some 5, .assign (.tmp 12), none⟩, .p) <| .c (⟨some 18, .makeSlice 97 (.tmp 17) (.tmp 17), none⟩, .e) <| .c (⟨some 6, .assign (.tmp 18), none⟩, .p) <| .n) Q a) : LI Try.prog h0 L (.raw (.region id rg93_0 true)) Q a :=
  LI_draw (.c (0, .p) <| .c (1, .p) <| .c (2, .p) <| .c (3, .l) <| .c (4, .p) <| .c (5, .p) <| .c (6, .p) <| .c (7, .l) <| .c (8, .p) <| .c (10, .p) <| .c (9, .e) <| .c (11, .p) <| .n) [] (by kernel_rfl) (by kernel_rfl) (by kernel_rfl) H
theorem dr93_0 (m : Nat) {Q : Exit → List AV → AH → Prop} {a : List AV} {h : AH} {id : Nat} (H : AX Try.prog m h [(⟨some 9, .move (.tmp 0), none⟩, true),
  (⟨some 10, .nilCheck (.tmp 9), none⟩, true),
  (⟨some 11, .fieldAddr 27 (.tmp 10) 0, none⟩, true),
  (⟨some 12, .load 3 (.tmp 11), none⟩, true),
  (⟨some 13, .move (.tmp 0), none⟩, true),
  (⟨some 14, .nilCheck (.tmp 13), none⟩, true),
  (⟨some 15, .fieldAddr 27 (.tmp 14) 1, none⟩, true),
  (⟨some 16, .load 24 (.tmp 15), none⟩, true),
  (⟨some 17, .call { callee := .builtin .len, args := #[.tmp 16], argTypes := #[24] }, none⟩, true),
  (⟨some 5, .assign (.tmp 12), none⟩, true),
  (⟨some 18, .makeSlice 97 (.tmp 17) (.tmp 17), none⟩, false),
  (⟨some 6, .assign (.tmp 18), none⟩, true)] (fun a' h' => Q .normal a' h') a h) : AI Try.prog (.raw (.region id rg93_0 true)) Q a h :=
  AI_draw [(0, true), (1, true), (2, true), (3, true), (4, true), (5, true), (6, true), (7, true), (8, true), (10, true), (9, false), (11, true)] m (by kernel_rfl) (by kernel_rfl) (by kernel_rfl) H

noncomputable def rg127_0 : Array Oper := rawAt Try.f127 0
/-- (*impl.Plan).within$1 -/
noncomputable def c127 : IC :=
  (.seq
  (.raw (.region 0 rg127_0 true))
  (.cond (.tmp 9)
    (.reg [
      ⟨some 10, .load 3 (.tmp 3), none⟩,
      ⟨some 11, .binOp .add 3 (.tmp 10) (.const (.int .i64 1)) 3, none⟩,
      ⟨none, .store 3 (.tmp 3) (.tmp 11), none⟩])
    .skip))
theorem hd127 : Try.f127.body.map dec = some c127 := by kernel_rfl
theorem e127 {R : AV → AH → Prop} {h : AH} (x0 x1 x2 x3 : AV) (H : h.wf → AI Try.prog c127 (RetQ Try.prog [] R) [x0, x1, x2, x3, un, un, un, un, un, un, un, un] h) : AC Try.prog 127 [x0, x1, x2, x3] h R :=
  AC_of' (rs := []) Try.func127 (by kernel_rfl) hd127 Try.ntmps127 rfl H
theorem dz127_0 {h0 : AH} {L : List It} {Q : Exit → List AV → List It → Prop} {a : List AV} {id : Nat} (H : LX Try.prog ⟨[], []⟩ h0 L L (.c (⟨some 5, .load 92 (.tmp 1), none⟩, .l) <| .c (⟨some 6, .move (.tmp 0), none⟩, .p) <| .c (⟨some 8, .load 3 (.tmp 2), none⟩, .l) <| .c (⟨some 7, .call { callee := .value (.func 93), args := #[.tmp 5, .tmp 6], argTypes := #[92, 25] }, none⟩, .e) <| .c (⟨some 9, .binOp .leq 3 (.tmp 7) (.tmp 8) 3, none⟩, .p) <| .n) Q a) : LI Try.prog h0 L (.raw (.region id rg127_0 true)) Q a :=
  LI_draw (.c (0, .l) <| .c (1, .p) <| .c (3, .l) <| .c (2, .e) <| .c (4, .p) <| .n) [] (by kernel_rfl) (by kernel_rfl) (by kernel_rfl) H
theorem db127_0 {h0 : AH} {L : List It} {Q : Exit → List AV → List It → Prop} {a : List AV} {id : Nat} (K : List (Nat × List AV)) (hK : ∀ x ∈ K, It.pt x.1 x.2 ∈ L) (H : LX Try.prog ⟨[2], K⟩ h0 L L (.c (⟨some 5, .load 92 (.tmp 1), none⟩, .l) <| .c (⟨some 6, .move (.tmp 0), none⟩, .p) <| .c (⟨some 8, .load 3 (.tmp 2), none⟩, .kp) <| .c (⟨some 7, .call { callee := .value (.func 93), args := #[.tmp 5, .tmp 6], argTypes := #[92, 25] }, none⟩, .f) <| .c (⟨some 9, .binOp .leq 3 (.tmp 7) (.tmp 8) 3, none⟩, .p) <| .n) Q a) : LI Try.prog h0 L (.raw (.region id rg127_0 true)) Q a :=
  LI_drawK (.c (0, .l) <| .c (1, .p) <| .c (3, .kp) <| .c (2, .f) <| .c (4, .p) <| .n) [2] K hK (by kernel_rfl) (by kernel_rfl) (by kernel_rfl) H
theorem dr127_0 (m : Nat) {Q : Exit → List AV → AH → Prop} {a : List AV} {h : AH} {id : Nat} (H : AX Try.prog m h [(⟨some 5, .load 92 (.tmp 1), none⟩, true),
  (⟨some 6, .move (.tmp 0), none⟩, true),
  (⟨some 8, .load 3 (.tmp 2), none⟩, true),
  (⟨some 7, .call { callee := .value (.func 93), args := #[.tmp 5, .tmp 6], argTypes := #[92, 25] }, none⟩, false),
  (⟨some 9, .binOp .leq 3 (.tmp 7) (.tmp 8) 3, none⟩, true)] (fun a' h' => Q .normal a' h') a h) : AI Try.prog (.raw (.region id rg127_0 true)) Q a h :=
  AI_draw [(0, true), (1, true), (3, true), (2, false), (4, true)] m (by kernel_rfl) (by kernel_rfl) (by kernel_rfl) H

/-- (*impl.Plan).within -/
def c91 : IC :=
  (.seq
  (.reg [
    ⟨some 2, .box 92 (.tmp 0), none⟩,
    ⟨some 3, .box 3 (.tmp 1), none⟩,
    ⟨some 4, .assign (.const (.int .i64 0)), none⟩])
  (.seq
  (.reg [
    ⟨some 5, .alloc 3, none⟩,
    ⟨none, .store 3 (.tmp 5) (.const (.int .i64 0)), none⟩])
  (.seq
  (.reg [
    ⟨some 6, .load 92 (.tmp 2), none⟩,
    ⟨some 7, .makeFunc (.func 127) #[] #[.tmp 2, .tmp 3, .tmp 5], none⟩,
    ⟨some 8, .call { callee := .value (.func 126), args := #[.tmp 6, .const (.slice none 0 0), .tmp 7], argTypes := #[92, 25, 126] }, none⟩])
  (.seq
  (.reg [
    ⟨some 9, .load 3 (.tmp 5), none⟩,
    ⟨some 4, .assign (.tmp 9), none⟩])
  .ret))))
theorem hd91 : Try.f91.body.map dec = some c91 := by kernel_rfl
theorem e91 {R : AV → AH → Prop} {h : AH} (x0 x1 : AV) (H : h.wf → AI Try.prog c91 (RetQ Try.prog [.tmp 4] R) [x0, x1, un, un, un, un, un, un, un, un] h) : AC Try.prog 91 [x0, x1] h R :=
  AC_of' (rs := [.tmp 4]) Try.func91 (by kernel_rfl) hd91 Try.ntmps91 rfl H

/-- impl.CountOrders -/
def c43 : IC :=
  (.seq
  (.reg [
    ⟨some 1, .box 27 (.tmp 0), none⟩,
    ⟨some 2, .assign (.const (.int .i64 0)), none⟩,
    ⟨some 3, .assign (.const (.bool false)), none⟩])
  (.seq
  (.seq
  (.reg [
    ⟨some 4, .load 27 (.tmp 1), none⟩,
    ⟨some 5, .call { callee := .value (.func 90), args := #[.tmp 4], argTypes := #[27] }, none⟩,
    ⟨some 6, .unOp .not 4 (.tmp 5), none⟩])
  (.cond (.tmp 6)
    (.seq
    (.reg [
      ⟨some 2, .assign (.const (.int .i64 0)), none⟩,
      ⟨some 3, .assign (.const (.bool false)), none⟩])
    .ret)
    .skip))
  (.seq
  (.reg [
    ⟨some 7, .call { callee := .value (.func 91), args := #[.tmp 1, .const (.int .i64 46)], argTypes := #[27, 3] }, none⟩,
    ⟨some 2, .assign (.tmp 7), none⟩,
    ⟨some 3, .assign (.const (.bool true)), none⟩])
  .ret)))
theorem hd43 : Try.f43.body.map dec = some c43 := by kernel_rfl
theorem e43 {R : AV → AH → Prop} {h : AH} (x0 : AV) (H : h.wf → AI Try.prog c43 (RetQ Try.prog [.tmp 2, .tmp 3] R) [x0, un, un, un, un, un, un, un] h) : AC Try.prog 43 [x0] h R :=
  AC_of' (rs := [.tmp 2, .tmp 3]) Try.func43 (by kernel_rfl) hd43 Try.ntmps43 rfl H

noncomputable def rg12_0 : Array Oper := rawAt Try.f12 0
/-- laws.FnExactCountOrders -/
noncomputable def c12 : IC :=
  (.seq
  (.reg [
    ⟨some 1, .box 38 (.tmp 0), none⟩,
    ⟨some 2, .assign (.const (.bool false)), none⟩])
  (.seq
  (.reg [
    ⟨some 3, .assign (.const (.int .i64 1048576)), none⟩])
  (.seq
  (.reg [
    ⟨some 9, .load 38 (.tmp 1), none⟩,
    ⟨some 10, .move (.tmp 3), none⟩,
    ⟨some 11, .call { callee := .value (.func 20), args := #[.tmp 9, .tmp 10], argTypes := #[38, 3] }, none⟩,
    ⟨some 3, .assign (.tmp 11), none⟩])
  (.seq
  (.seq
  (.reg [
    ⟨some 12, .move (.tmp 3), none⟩,
    ⟨some 13, .binOp .lss 3 (.tmp 12) (.const (.int .i64 0)) 3, none⟩])
  (.cond (.tmp 13)
    (.seq
    (.reg [
      ⟨some 2, .assign (.const (.bool true)), none⟩])
    .ret)
    .skip))
  (.seq
  (.reg [
    ⟨some 15, .load 38 (.tmp 1), none⟩,
    ⟨some 16, .call { callee := .value (.func 21), args := #[.tmp 15], argTypes := #[38] }, none⟩,
    ⟨some 17, .call { callee := .value (.func 42), args := #[.tmp 16], argTypes := #[27] }, none⟩,
    ⟨some 14, .move (.tmp 17), none⟩,
    ⟨some 18, .extract (.tmp 14) 0, none⟩,
    ⟨some 19, .extract (.tmp 14) 1, none⟩,
    ⟨some 4, .assign (.tmp 18), none⟩,
    ⟨some 5, .assign (.tmp 19), none⟩])
  (.seq
  (.reg [
    ⟨some 20, .load 38 (.tmp 1), none⟩,
    ⟨some 21, .call { callee := .value (.func 21), args := #[.tmp 20], argTypes := #[38] }, none⟩,
    ⟨some 6, .alloc 27, none⟩,
    ⟨none, .store 27 (.tmp 6) (.tmp 21), none⟩])
  (.seq
  (.reg [
    ⟨some 23, .load 27 (.tmp 6), none⟩,
    ⟨some 24, .call { callee := .value (.func 43), args := #[.tmp 23], argTypes := #[27] }, none⟩,
    ⟨some 22, .move (.tmp 24), none⟩,
    ⟨some 25, .extract (.tmp 22) 0, none⟩,
    ⟨some 26, .extract (.tmp 22) 1, none⟩,
    ⟨some 7, .assign (.tmp 25), none⟩,
    ⟨some 8, .assign (.tmp 26), none⟩])
  (.seq
  (.seq
  (.reg [
    ⟨some 27, .move (.tmp 7), none⟩,
    ⟨some 28, .move (.tmp 4), none⟩,
    ⟨some 29, .binOp .neq 3 (.tmp 27) (.tmp 28) 3, none⟩,
    ⟨some 30, .move (.tmp 29), none⟩,
    ⟨some 31, .move (.tmp 8), some (30, false)⟩,
    ⟨some 32, .move (.tmp 5), some (30, false)⟩,
    ⟨some 33, .binOp .neq 4 (.tmp 31) (.tmp 32) 4, some (30, false)⟩,
    ⟨some 34, .pick (.tmp 30) (.const (.bool true)) (.tmp 33), none⟩])
  (.cond (.tmp 34)
    (.seq
    (.reg [
      ⟨some 2, .assign (.const (.bool false)), none⟩])
    .ret)
    .skip))
  (.seq
  (.seq
  (.raw (.region 10 rg12_0 true))
  (.cond (.tmp 39)
    (.seq
    (.reg [
      ⟨some 2, .assign (.const (.bool false)), none⟩])
    .ret)
    .skip))
  (.seq
  (.reg [
    ⟨some 2, .assign (.const (.bool true)), none⟩])
  .ret))))))))))
theorem hd12 : Try.f12.body.map dec = some c12 := by kernel_rfl
theorem e12 {R : AV → AH → Prop} {h : AH} (x0 : AV) (H : h.wf → AI Try.prog c12 (RetQ Try.prog [.tmp 2] R) [x0, un, un, un, un, un, un, un, un, un, un, un, un, un, un, un, un, un, un, un, un, un, un, un, un, un, un, un, un, un, un, un, un, un, un, un, un, un, un, un] h) : AC Try.prog 12 [x0] h R :=
  AC_of' (rs := [.tmp 2]) Try.func12 (by kernel_rfl) hd12 Try.ntmps12 rfl H
theorem dz12_0 {h0 : AH} {L : List It} {Q : Exit → List AV → List It → Prop} {a : List AV} {id : Nat} (H : LX Try.prog ⟨[], []⟩ h0 L L (.c (⟨some 35, .load 27 (.tmp 6), none⟩, .l) <| .c (⟨some 36, .load 38 (.tmp 1), none⟩, .l) <| .c (⟨some 37, .call { callee := .value (.func 21), args := #[.tmp 36], argTypes := #[38] }, none⟩, .e) <| .c (⟨some 38, .call { callee := .value (.func 22), args := #[.tmp 35, .tmp 37], argTypes := #[27, 27] }, none⟩, .e) <| .c (⟨some 39, .unOp .not 4 (.tmp 38), none⟩, .p) <| .n) Q a) : LI Try.prog h0 L (.raw (.region id rg12_0 true)) Q a :=
  LI_draw (.c (0, .l) <| .c (1, .l) <| .c (2, .e) <| .c (3, .e) <| .c (4, .p) <| .n) [] (by kernel_rfl) (by kernel_rfl) (by kernel_rfl) H
theorem db12_0 {h0 : AH} {L : List It} {Q : Exit → List AV → List It → Prop} {a : List AV} {id : Nat} (K : List (Nat × List AV)) (hK : ∀ x ∈ K, It.pt x.1 x.2 ∈ L) (H : LX Try.prog ⟨[2, 3], K⟩ h0 L L (.c (⟨some 36, .load 38 (.tmp 1), none⟩, .l) <| .t (.c (⟨some 35, .load 27 (.tmp 6), none⟩, .e) <| .c (⟨some 37, .call { callee := .value (.func 21), args := #[.tmp 36], argTypes := #[38] }, none⟩, .f) <| .c (⟨some 38, .call { callee := .value (.func 22), args := #[.tmp 35, .tmp 37], argTypes := #[27, 27] }, none⟩, .f) <| .c (⟨some 39, .unOp .not 4 (.tmp 38), none⟩, .p) <| .n) (.c (⟨some 37, .call { callee := .value (.func 21), args := #[.tmp 36], argTypes := #[38] }, none⟩, .f) <| .c (⟨some 35, .load 27 (.tmp 6), none⟩, .e) <| .c (⟨some 38, .call { callee := .value (.func 22), args := #[.tmp 35, .tmp 37], argTypes := #[27, 27] }, none⟩, .f) <| .c (⟨some 39, .unOp .not 4 (.tmp 38), none⟩, .p) <| .n)) Q a) : LI Try.prog h0 L (.raw (.region id rg12_0 true)) Q a :=
  LI_drawK (.c (1, .l) <| .t (.c (0, .e) <| .c (2, .f) <| .c (3, .f) <| .c (4, .p) <| .n) (.c (2, .f) <| .c (0, .e) <| .c (3, .f) <| .c (4, .p) <| .n)) [2, 3] K hK (by kernel_rfl) (by kernel_rfl) (by kernel_rfl) H
theorem dr12_0 (m : Nat) {Q : Exit → List AV → AH → Prop} {a : List AV} {h : AH} {id : Nat} (H : AX Try.prog m h [(⟨some 35, .load 27 (.tmp 6), none⟩, true),
  (⟨some 36, .load 38 (.tmp 1), none⟩, true),
  (⟨some 37, .call { callee := .value (.func 21), args := #[.tmp 36], argTypes := #[38] }, none⟩, false),
  (⟨some 38, .call { callee := .value (.func 22), args := #[.tmp 35, .tmp 37], argTypes := #[27, 27] }, none⟩, false),
  (⟨some 39, .unOp .not 4 (.tmp 38), none⟩, true)] (fun a' h' => Q .normal a' h') a h) : AI Try.prog (.raw (.region id rg12_0 true)) Q a h :=
  AI_draw [(0, true), (1, true), (2, false), (3, false), (4, true)] m (by kernel_rfl) (by kernel_rfl) (by kernel_rfl) H

end Go.Proofs.Ytdeeeacnmkmeiaa
