/- The short forms of the functions' code, and facts on types. -/
import Derived.Test.YtfgealbhigkddaaProg
import Derived.Test.YtfgealbhigkddaaD2
namespace Go.Proofs.Ytfgealbhigkddaa
open Go.AL
set_option linter.unusedVariables false
theorem sz0 : szT Try.prog 0 = some 1 := by kernel_rfl
theorem by0 : byT Try.prog 0 = some 0 := by kernel_rfl
theorem ag0 : aggT Try.prog 0 = some false := by kernel_rfl
instance jsz0 : Tsz Try.prog 0 1 := ⟨sz0⟩
instance jby0 : Tby Try.prog 0 0 := ⟨by0⟩
instance jag0 : Tag Try.prog 0 false := ⟨ag0⟩
theorem sz1 : szT Try.prog 1 = some 1 := by kernel_rfl
theorem by1 : byT Try.prog 1 = some 8 := by kernel_rfl
theorem ag1 : aggT Try.prog 1 = some false := by kernel_rfl
instance jsz1 : Tsz Try.prog 1 1 := ⟨sz1⟩
instance jby1 : Tby Try.prog 1 8 := ⟨by1⟩
instance jag1 : Tag Try.prog 1 false := ⟨ag1⟩
theorem ze1 : zeroA Try.prog 1 = some .nf := by kernel_rfl
instance jze1 : Tze Try.prog 1 (.nf) := ⟨ze1⟩
theorem sz2 : szT Try.prog 2 = some 1 := by kernel_rfl
theorem by2 : byT Try.prog 2 = some 8 := by kernel_rfl
theorem ag2 : aggT Try.prog 2 = some false := by kernel_rfl
instance jsz2 : Tsz Try.prog 2 1 := ⟨sz2⟩
instance jby2 : Tby Try.prog 2 8 := ⟨by2⟩
instance jag2 : Tag Try.prog 2 false := ⟨ag2⟩
instance jik2 : Tik Try.prog 2 .i64 := ⟨Try.underlying2⟩
theorem ze2 : zeroA Try.prog 2 = some (.i .i64 0) := by kernel_rfl
instance jze2 : Tze Try.prog 2 (.i .i64 0) := ⟨ze2⟩
theorem sz3 : szT Try.prog 3 = some 1 := by kernel_rfl
theorem by3 : byT Try.prog 3 = some 8 := by kernel_rfl
theorem ag3 : aggT Try.prog 3 = some false := by kernel_rfl
instance jsz3 : Tsz Try.prog 3 1 := ⟨sz3⟩
instance jby3 : Tby Try.prog 3 8 := ⟨by3⟩
instance jag3 : Tag Try.prog 3 false := ⟨ag3⟩
instance jik3 : Tik Try.prog 3 .i64 := ⟨Try.underlying3⟩
theorem ze3 : zeroA Try.prog 3 = some (.i .i64 0) := by kernel_rfl
instance jze3 : Tze Try.prog 3 (.i .i64 0) := ⟨ze3⟩
theorem sz4 : szT Try.prog 4 = some 1 := by kernel_rfl
theorem by4 : byT Try.prog 4 = some 1 := by kernel_rfl
theorem ag4 : aggT Try.prog 4 = some false := by kernel_rfl
instance jsz4 : Tsz Try.prog 4 1 := ⟨sz4⟩
instance jby4 : Tby Try.prog 4 1 := ⟨by4⟩
instance jag4 : Tag Try.prog 4 false := ⟨ag4⟩
instance jbo4 : Tbo Try.prog 4 := ⟨Try.underlying4⟩
theorem ze4 : zeroA Try.prog 4 = some (.b false) := by kernel_rfl
instance jze4 : Tze Try.prog 4 (.b false) := ⟨ze4⟩
theorem sz5 : szT Try.prog 5 = some 1 := by kernel_rfl
theorem by5 : byT Try.prog 5 = some 1 := by kernel_rfl
theorem ag5 : aggT Try.prog 5 = some false := by kernel_rfl
instance jsz5 : Tsz Try.prog 5 1 := ⟨sz5⟩
instance jby5 : Tby Try.prog 5 1 := ⟨by5⟩
instance jag5 : Tag Try.prog 5 false := ⟨ag5⟩
instance jik5 : Tik Try.prog 5 .u8 := ⟨Try.underlying5⟩
theorem ze5 : zeroA Try.prog 5 = some (.i .u8 0) := by kernel_rfl
instance jze5 : Tze Try.prog 5 (.i .u8 0) := ⟨ze5⟩
theorem sz6 : szT Try.prog 6 = some 1 := by kernel_rfl
theorem by6 : byT Try.prog 6 = some 1 := by kernel_rfl
theorem ag6 : aggT Try.prog 6 = some false := by kernel_rfl
instance jsz6 : Tsz Try.prog 6 1 := ⟨sz6⟩
instance jby6 : Tby Try.prog 6 1 := ⟨by6⟩
instance jag6 : Tag Try.prog 6 false := ⟨ag6⟩
instance jik6 : Tik Try.prog 6 .u8 := ⟨Try.underlying6⟩
theorem ze6 : zeroA Try.prog 6 = some (.i .u8 0) := by kernel_rfl
instance jze6 : Tze Try.prog 6 (.i .u8 0) := ⟨ze6⟩
theorem sz8 : szT Try.prog 8 = some 4 := by kernel_rfl
theorem by8 : byT Try.prog 8 = some 24 := by kernel_rfl
theorem ag8 : aggT Try.prog 8 = some true := by kernel_rfl
instance jsz8 : Tsz Try.prog 8 4 := ⟨sz8⟩
instance jby8 : Tby Try.prog 8 24 := ⟨by8⟩
instance jag8 : Tag Try.prog 8 true := ⟨ag8⟩
theorem ze8 : zeroA Try.prog 8 = some (.agg [(.i .i64 0), (.i .i64 0), (.b false), (.i .u8 0)]) := by kernel_rfl
instance jze8 : Tze Try.prog 8 (.agg [(.i .i64 0), (.i .i64 0), (.b false), (.i .u8 0)]) := ⟨ze8⟩
theorem fl8_0 : fldA Try.prog 8 0 = some (0, 1, false) := by kernel_rfl
instance jfl8_0 : Tfl Try.prog 8 0 0 1 false := ⟨fl8_0⟩
theorem fl8_1 : fldA Try.prog 8 1 = some (1, 1, false) := by kernel_rfl
instance jfl8_1 : Tfl Try.prog 8 1 1 1 false := ⟨fl8_1⟩
theorem fl8_2 : fldA Try.prog 8 2 = some (2, 1, false) := by kernel_rfl
instance jfl8_2 : Tfl Try.prog 8 2 2 1 false := ⟨fl8_2⟩
theorem fl8_3 : fldA Try.prog 8 3 = some (3, 1, false) := by kernel_rfl
instance jfl8_3 : Tfl Try.prog 8 3 3 1 false := ⟨fl8_3⟩
theorem pa8 : plA Try.prog 8 = some [(0, 1), (1, 1), (2, 1), (3, 1)] := by kernel_rfl
instance jpl8 : Tpl Try.prog 8 [(0, 1), (1, 1), (2, 1), (3, 1)] := ⟨pa8⟩
theorem sz25 : szT Try.prog 25 = some 1 := by kernel_rfl
theorem by25 : byT Try.prog 25 = some 24 := by kernel_rfl
theorem ag25 : aggT Try.prog 25 = some false := by kernel_rfl
instance jsz25 : Tsz Try.prog 25 1 := ⟨sz25⟩
instance jby25 : Tby Try.prog 25 24 := ⟨by25⟩
instance jag25 : Tag Try.prog 25 false := ⟨ag25⟩
instance jsl25 : Tsl Try.prog 25 3 := ⟨Try.underlying25⟩
theorem ze25 : zeroA Try.prog 25 = some .ns := by kernel_rfl
instance jze25 : Tze Try.prog 25 (.ns) := ⟨ze25⟩
theorem sz32 : szT Try.prog 32 = some 4 := by kernel_rfl
theorem by32 : byT Try.prog 32 = some 32 := by kernel_rfl
theorem ag32 : aggT Try.prog 32 = some true := by kernel_rfl
instance jsz32 : Tsz Try.prog 32 4 := ⟨sz32⟩
instance jby32 : Tby Try.prog 32 32 := ⟨by32⟩
instance jag32 : Tag Try.prog 32 true := ⟨ag32⟩
theorem ze32 : zeroA Try.prog 32 = some (.agg [(.i .i64 0), (.i .i64 0), (.i .i64 0), (.i .i64 0)]) := by kernel_rfl
instance jze32 : Tze Try.prog 32 (.agg [(.i .i64 0), (.i .i64 0), (.i .i64 0), (.i .i64 0)]) := ⟨ze32⟩
theorem fl32_0 : fldA Try.prog 32 0 = some (0, 1, false) := by kernel_rfl
instance jfl32_0 : Tfl Try.prog 32 0 0 1 false := ⟨fl32_0⟩
theorem fl32_1 : fldA Try.prog 32 1 = some (1, 1, false) := by kernel_rfl
instance jfl32_1 : Tfl Try.prog 32 1 1 1 false := ⟨fl32_1⟩
theorem fl32_2 : fldA Try.prog 32 2 = some (2, 1, false) := by kernel_rfl
instance jfl32_2 : Tfl Try.prog 32 2 2 1 false := ⟨fl32_2⟩
theorem fl32_3 : fldA Try.prog 32 3 = some (3, 1, false) := by kernel_rfl
instance jfl32_3 : Tfl Try.prog 32 3 3 1 false := ⟨fl32_3⟩
theorem pa32 : plA Try.prog 32 = some [(0, 1), (1, 1), (2, 1), (3, 1)] := by kernel_rfl
instance jpl32 : Tpl Try.prog 32 [(0, 1), (1, 1), (2, 1), (3, 1)] := ⟨pa32⟩
theorem sz41 : szT Try.prog 41 = some 1 := by kernel_rfl
theorem by41 : byT Try.prog 41 = some 8 := by kernel_rfl
theorem ag41 : aggT Try.prog 41 = some false := by kernel_rfl
instance jsz41 : Tsz Try.prog 41 1 := ⟨sz41⟩
instance jby41 : Tby Try.prog 41 8 := ⟨by41⟩
instance jag41 : Tag Try.prog 41 false := ⟨ag41⟩
theorem ze41 : zeroA Try.prog 41 = some .nf := by kernel_rfl
instance jze41 : Tze Try.prog 41 (.nf) := ⟨ze41⟩
theorem sz42 : szT Try.prog 42 = some 1 := by kernel_rfl
theorem by42 : byT Try.prog 42 = some 24 := by kernel_rfl
theorem ag42 : aggT Try.prog 42 = some false := by kernel_rfl
instance jsz42 : Tsz Try.prog 42 1 := ⟨sz42⟩
instance jby42 : Tby Try.prog 42 24 := ⟨by42⟩
instance jag42 : Tag Try.prog 42 false := ⟨ag42⟩
instance jsl42 : Tsl Try.prog 42 25 := ⟨Try.underlying42⟩
theorem ze42 : zeroA Try.prog 42 = some .ns := by kernel_rfl
instance jze42 : Tze Try.prog 42 (.ns) := ⟨ze42⟩
theorem sz49 : szT Try.prog 49 = some 1 := by kernel_rfl
theorem by49 : byT Try.prog 49 = some 24 := by kernel_rfl
theorem ag49 : aggT Try.prog 49 = some false := by kernel_rfl
instance jsz49 : Tsz Try.prog 49 1 := ⟨sz49⟩
instance jby49 : Tby Try.prog 49 24 := ⟨by49⟩
instance jag49 : Tag Try.prog 49 false := ⟨ag49⟩
instance jsl49 : Tsl Try.prog 49 5 := ⟨Try.underlying49⟩
theorem ze49 : zeroA Try.prog 49 = some .ns := by kernel_rfl
instance jze49 : Tze Try.prog 49 (.ns) := ⟨ze49⟩
theorem sz71 : szT Try.prog 71 = some 1 := by kernel_rfl
theorem by71 : byT Try.prog 71 = some 8 := by kernel_rfl
theorem ag71 : aggT Try.prog 71 = some false := by kernel_rfl
instance jsz71 : Tsz Try.prog 71 1 := ⟨sz71⟩
instance jby71 : Tby Try.prog 71 8 := ⟨by71⟩
instance jag71 : Tag Try.prog 71 false := ⟨ag71⟩
theorem ze71 : zeroA Try.prog 71 = some .nf := by kernel_rfl
instance jze71 : Tze Try.prog 71 (.nf) := ⟨ze71⟩
theorem sz81 : szT Try.prog 81 = some 1 := by kernel_rfl
theorem by81 : byT Try.prog 81 = some 8 := by kernel_rfl
theorem ag81 : aggT Try.prog 81 = some false := by kernel_rfl
instance jsz81 : Tsz Try.prog 81 1 := ⟨sz81⟩
instance jby81 : Tby Try.prog 81 8 := ⟨by81⟩
instance jag81 : Tag Try.prog 81 false := ⟨ag81⟩
theorem ze81 : zeroA Try.prog 81 = some .np := by kernel_rfl
instance jze81 : Tze Try.prog 81 (.np) := ⟨ze81⟩
theorem sz82 : szT Try.prog 82 = some 1 := by kernel_rfl
theorem by82 : byT Try.prog 82 = some 8 := by kernel_rfl
theorem ag82 : aggT Try.prog 82 = some false := by kernel_rfl
instance jsz82 : Tsz Try.prog 82 1 := ⟨sz82⟩
instance jby82 : Tby Try.prog 82 8 := ⟨by82⟩
instance jag82 : Tag Try.prog 82 false := ⟨ag82⟩
instance jik82 : Tik Try.prog 82 .u64 := ⟨Try.underlying82⟩
theorem ze82 : zeroA Try.prog 82 = some (.i .u64 0) := by kernel_rfl
instance jze82 : Tze Try.prog 82 (.i .u64 0) := ⟨ze82⟩
theorem sz84 : szT Try.prog 84 = some 3 := by kernel_rfl
theorem by84 : byT Try.prog 84 = some 40 := by kernel_rfl
theorem ag84 : aggT Try.prog 84 = some true := by kernel_rfl
instance jsz84 : Tsz Try.prog 84 3 := ⟨sz84⟩
instance jby84 : Tby Try.prog 84 40 := ⟨by84⟩
instance jag84 : Tag Try.prog 84 true := ⟨ag84⟩
theorem ze84 : zeroA Try.prog 84 = some (.agg [.ns, (.i .i64 0), (.i .u64 0)]) := by kernel_rfl
instance jze84 : Tze Try.prog 84 (.agg [.ns, (.i .i64 0), (.i .u64 0)]) := ⟨ze84⟩
theorem fl84_0 : fldA Try.prog 84 0 = some (0, 1, false) := by kernel_rfl
instance jfl84_0 : Tfl Try.prog 84 0 0 1 false := ⟨fl84_0⟩
theorem fl84_1 : fldA Try.prog 84 1 = some (1, 1, false) := by kernel_rfl
instance jfl84_1 : Tfl Try.prog 84 1 1 1 false := ⟨fl84_1⟩
theorem fl84_2 : fldA Try.prog 84 2 = some (2, 1, false) := by kernel_rfl
instance jfl84_2 : Tfl Try.prog 84 2 2 1 false := ⟨fl84_2⟩
theorem pa84 : plA Try.prog 84 = some [(0, 1), (1, 1), (2, 1)] := by kernel_rfl
instance jpl84 : Tpl Try.prog 84 [(0, 1), (1, 1), (2, 1)] := ⟨pa84⟩

/-- spec.l1In -/
def c42 : IC :=
  (.seq
  (.reg [
    ⟨some 6, .assign (.const (.bool false)), none⟩])
  (.seq
  (.reg [
    ⟨some 7, .move (.tmp 0), none⟩,
    ⟨some 8, .move (.tmp 1), none⟩,
    ⟨some 9, .binOp .geq 3 (.tmp 7) (.tmp 8) 3, none⟩,
    ⟨some 10, .move (.tmp 9), none⟩,
    ⟨some 11, .move (.tmp 0), some (10, true)⟩,
    ⟨some 12, .move (.tmp 2), some (10, true)⟩,
    ⟨some 13, .binOp .leq 3 (.tmp 11) (.tmp 12) 3, some (10, true)⟩,
    ⟨some 14, .pick (.tmp 10) (.tmp 13) (.const (.bool false)), none⟩,
    ⟨some 6, .assign (.tmp 14), none⟩])
  .ret))
theorem hd42 : Try.f42.body.map dec = some c42 := by kernel_rfl
theorem e42 {R : AV → AH → Prop} {h : AH} (x0 x1 x2 : AV) (H : h.wf → AI Try.prog c42 (RetQ Try.prog [.tmp 6] R) [x0, x1, x2, un, un, un, un, un, un, un, un, un, un, un, un] h) : AC Try.prog 42 [x0, x1, x2] h R :=
  AC_of' (rs := [.tmp 6]) Try.func42 (by kernel_rfl) hd42 Try.ntmps42 rfl H

/-- spec.moModulus -/
def c41 : IC :=
  (.seq
  (.reg [
    ⟨some 2, .assign (.const (.bool false)), none⟩])
  (.seq
  (.reg [
    ⟨some 3, .move (.tmp 0), none⟩,
    ⟨some 4, .call { callee := .value (.func 42), args := #[.tmp 3, .const (.int .i64 2), .const (.int .i64 10000)], argTypes := #[3, 3, 3] }, none⟩,
    ⟨some 2, .assign (.tmp 4), none⟩])
  .ret))
theorem hd41 : Try.f41.body.map dec = some c41 := by kernel_rfl
theorem e41 {R : AV → AH → Prop} {h : AH} (x0 : AV) (H : h.wf → AI Try.prog c41 (RetQ Try.prog [.tmp 2] R) [x0, un, un, un, un] h) : AC Try.prog 41 [x0] h R :=
  AC_of' (rs := [.tmp 2]) Try.func41 (by kernel_rfl) hd41 Try.ntmps41 rfl H

/-- spec.l1All -/
def c44 : IC :=
  (.seq
  (.reg [
    ⟨some 6, .assign (.const (.bool false)), none⟩])
  (.seq
  (.seq
  (.reg [
    ⟨some 9, .move (.tmp 0), none⟩,
    ⟨some 10, .call { callee := .builtin .len, args := #[.tmp 9], argTypes := #[25] }, none⟩,
    ⟨some 11, .move (.const (.int .i64 0)), none⟩])
  (.block 0
  (.loop
    (.seq
    (.reg [
      ⟨some 12, .binOp .lss 3 (.tmp 11) (.tmp 10) 3, none⟩])
    (.seq
    (.cond (.tmp 12)
      .skip
      (.exit 0))
    (.seq
    (.block 1
    (.seq
    (.reg [
      ⟨some 13, .indexAddr 25 (.tmp 9) (.tmp 11), none⟩,
      ⟨some 14, .load 3 (.tmp 13), none⟩,
      ⟨some 8, .assign (.tmp 14), none⟩])
    (.seq
    (.reg [
      ⟨some 15, .move (.tmp 8), none⟩,
      ⟨some 16, .move (.tmp 1), none⟩,
      ⟨some 17, .move (.tmp 2), none⟩,
      ⟨some 18, .call { callee := .value (.func 42), args := #[.tmp 15, .tmp 16, .tmp 17], argTypes := #[3, 3, 3] }, none⟩,
      ⟨some 19, .unOp .not 4 (.tmp 18), none⟩])
    (.cond (.tmp 19)
      (.seq
      (.reg [
        ⟨some 6, .assign (.const (.bool false)), none⟩])
      .ret)
      .skip))))
    (.reg [
      ⟨some 20, .binOp .add 3 (.tmp 11) (.const (.int .i64 1)) 3, none⟩,
      ⟨some 11, .move (.tmp 20), none⟩])))))))
  (.seq
  (.reg [
    ⟨some 6, .assign (.const (.bool true)), none⟩])
  .ret)))
theorem hd44 : Try.f44.body.map dec = some c44 := by kernel_rfl
theorem e44 {R : AV → AH → Prop} {h : AH} (x0 x1 x2 : AV) (H : h.wf → AI Try.prog c44 (RetQ Try.prog [.tmp 6] R) [x0, x1, x2, un, un, un, un, un, un, un, un, un, un, un, un, un, un, un, un, un, un] h) : AC Try.prog 44 [x0, x1, x2] h R :=
  AC_of' (rs := [.tmp 6]) Try.func44 (by kernel_rfl) hd44 Try.ntmps44 rfl H

/-- spec.moMatrix -/
def c52 : IC :=
  (.seq
  (.reg [
    ⟨some 2, .box 32 (.tmp 0), none⟩,
    ⟨some 4, .assign (.const (.bool false)), none⟩])
  (.seq
  (.reg [
    ⟨some 5, .fieldAddr 32 (.tmp 2) 0, none⟩,
    ⟨some 6, .load 3 (.tmp 5), none⟩,
    ⟨some 7, .fieldAddr 32 (.tmp 2) 1, none⟩,
    ⟨some 8, .load 3 (.tmp 7), none⟩,
    ⟨some 9, .fieldAddr 32 (.tmp 2) 2, none⟩,
    ⟨some 10, .load 3 (.tmp 9), none⟩,
    ⟨some 11, .fieldAddr 32 (.tmp 2) 3, none⟩,
    ⟨some 12, .load 3 (.tmp 11), none⟩,
    ⟨some 13, .buildSlice 25 4 #[(0, .tmp 6), (1, .tmp 8), (2, .tmp 10), (3, .tmp 12)], none⟩,
    ⟨some 14, .move (.tmp 1), none⟩,
    ⟨some 15, .binOp .sub 3 (.tmp 14) (.const (.int .i64 1)) 3, none⟩,
    ⟨some 16, .call { callee := .value (.func 44), args := #[.tmp 13, .const (.int .i64 0), .tmp 15], argTypes := #[25, 3, 3] }, none⟩,
    ⟨some 4, .assign (.tmp 16), none⟩])
  .ret))
theorem hd52 : Try.f52.body.map dec = some c52 := by kernel_rfl
theorem e52 {R : AV → AH → Prop} {h : AH} (x0 x1 : AV) (H : h.wf → AI Try.prog c52 (RetQ Try.prog [.tmp 4] R) [x0, x1, un, un, un, un, un, un, un, un, un, un, un, un, un, un, un] h) : AC Try.prog 52 [x0, x1] h R :=
  AC_of' (rs := [.tmp 4]) Try.func52 (by kernel_rfl) hd52 Try.ntmps52 rfl H

/-- spec.moExponent -/
def c53 : IC :=
  (.seq
  (.reg [
    ⟨some 2, .assign (.const (.bool false)), none⟩])
  (.seq
  (.reg [
    ⟨some 3, .move (.tmp 0), none⟩,
    ⟨some 4, .call { callee := .value (.func 42), args := #[.tmp 3, .const (.int .i64 0), .const (.int .i64 1000000)], argTypes := #[3, 3, 3] }, none⟩,
    ⟨some 2, .assign (.tmp 4), none⟩])
  .ret))
theorem hd53 : Try.f53.body.map dec = some c53 := by kernel_rfl
theorem e53 {R : AV → AH → Prop} {h : AH} (x0 : AV) (H : h.wf → AI Try.prog c53 (RetQ Try.prog [.tmp 2] R) [x0, un, un, un, un] h) : AC Try.prog 53 [x0] h R :=
  AC_of' (rs := [.tmp 2]) Try.func53 (by kernel_rfl) hd53 Try.ntmps53 rfl H

noncomputable def rg54_0 : Array Oper := rawAt Try.f54 0
-- NO ORDER
/-- spec.moTimes -/
noncomputable def c54 : IC :=
  (.seq
  (.reg [
    ⟨some 3, .box 32 (.tmp 0), none⟩,
    ⟨some 4, .box 32 (.tmp 1), none⟩,
    ⟨some 6, .alloc 32, none⟩])
  (.seq
  (.raw (.region 1 rg54_0 true))
  .ret))
theorem hd54 : Try.f54.body.map dec = some c54 := by kernel_rfl
theorem e54 {R : AV → AH → Prop} {h : AH} (x0 x1 x2 : AV) (H : h.wf → AI Try.prog c54 (RetQ Try.prog [.cell 6 32] R) [x0, x1, x2, un, un, un, un, un, un, un, un, un, un, un, un, un, un, un, un, un, un, un, un, un, un, un, un, un, un, un, un, un, un, un, un, un, un, un, un, un, un, un, un, un, un, un, un, un, un, un, un, un, un, un, un, un, un, un, un, un] h) : AC Try.prog 54 [x0, x1, x2] h R :=
  AC_of' (rs := [.cell 6 32]) Try.func54 (by kernel_rfl) hd54 Try.ntmps54 rfl H
theorem dz54_0 {h0 : AH} {L : List It} {Q : Exit → List AV → List It → Prop} {a : List AV} {id : Nat} (H : LX Try.prog ⟨[53], []⟩ h0 L L (.c (⟨some 7, .fieldAddr 32 (.tmp 3) 0, none⟩, .p) <| .c (⟨some 8, .load 3 (.tmp 7), none⟩, .l) <| .c (⟨some 9, .fieldAddr 32 (.tmp 4) 0, none⟩, .p) <| .c (⟨some 10, .load 3 (.tmp 9), none⟩, .l) <| .c (⟨some 11, .binOp .mul 3 (.tmp 8) (.tmp 10) 3, none⟩, .p) <| .c (⟨some 12, .fieldAddr 32 (.tmp 3) 1, none⟩, .p) <| .c (⟨some 13, .load 3 (.tmp 12), none⟩, .l) <| .c (⟨some 14, .fieldAddr 32 (.tmp 4) 2, none⟩, .p) <| .c (⟨some 15, .load 3 (.tmp 14), none⟩, .l) <| .c (⟨some 16, .binOp .mul 3 (.tmp 13) (.tmp 15) 3, none⟩, .p) <| .c (⟨some 17, .binOp .add 3 (.tmp 11) (.tmp 16) 3, none⟩, .p) <| .c (⟨some 18, .move (.tmp 2), none⟩, .p) <| .c (⟨some 19, .binOp .rem 3 (.tmp 17) (.tmp 18) 3, none⟩, .p) <| .c (⟨some 20, .fieldAddr 32 (.tmp 3) 0, none⟩, .p) <| .c (⟨some 21, .load 3 (.tmp 20), none⟩, .l) <| .c (⟨some 22, .fieldAddr 32 (.tmp 4) 1, none⟩, .p) <| .c (⟨some 23, .load 3 (.tmp 22), none⟩, .l) <| .c (⟨some 24, .binOp .mul 3 (.tmp 21) (.tmp 23) 3, none⟩, .p) <| .c (⟨some 25, .fieldAddr 32 (.tmp 3) 1, none⟩, .p) <| .c (⟨some 26, .load 3 (.tmp 25), none⟩, .l) <| .c (⟨some 27, .fieldAddr 32 (.tmp 4) 3, none⟩, .p) <| .c (⟨some 28, .load 3 (.tmp 27), none⟩, .l) <| .c (⟨some 29, .binOp .mul 3 (.tmp 26) (.tmp 28) 3, none⟩, .p) <| .c (⟨some 30, .binOp .add 3 (.tmp 24) (.tmp 29) 3, none⟩, .p) <| .c (⟨some 31, .move (.tmp 2), none⟩, .p) <| .c (⟨some 32, .binOp .rem 3 (.tmp 30) (.tmp 31) 3, none⟩, .p) <| .c (⟨some 33, .fieldAddr 32 (.tmp 3) 2, none⟩, .p) <| .c (⟨some 34, .load 3 (.tmp 33), none⟩, .l) <| .c (⟨some 35, .fieldAddr 32 (.tmp 4) 0, none⟩, .p) <| .c (⟨some 36, .load 3 (.tmp 35), none⟩, .l) <| .c (⟨some 37, .binOp .mul 3 (.tmp 34) (.tmp 36) 3, none⟩, .p) <| .c (⟨some 38, .fieldAddr 32 (.tmp 3) 3, none⟩, .p) <| .c (⟨some 39, .load 3 (.tmp 38), none⟩, .l) <| .c (⟨some 40, .fieldAddr 32 (.tmp 4) 2, none⟩, .p) <| .c (⟨some 41, .load 3 (.tmp 40), none⟩, .l) <| .c (⟨some 42, .binOp .mul 3 (.tmp 39) (.tmp 41) 3, none⟩, .p) <| .c (⟨some 43, .binOp .add 3 (.tmp 37) (.tmp 42) 3, none⟩, .p) <| .c (⟨some 44, .move (.tmp 2), none⟩, .p) <| .c (⟨some 45, .binOp .rem 3 (.tmp 43) (.tmp 44) 3, none⟩, .p) <| .c (⟨some 46, .fieldAddr 32 (.tmp 3) 2, none⟩, .p) <| .c (⟨some 47, .load 3 (.tmp 46), none⟩, .l) <| .c (⟨some 48, .fieldAddr 32 (.tmp 4) 1, none⟩, .p) <| .c (⟨some 49, .load 3 (.tmp 48), none⟩, .l) <| .c (⟨some 50, .binOp .mul 3 (.tmp 47) (.tmp 49) 3, none⟩, .p) <| .c (⟨some 51, .fieldAddr 32 (.tmp 3) 3, none⟩, .p) <| .c (⟨some 52, .load 3 (.tmp 51), none⟩, .l) <| .c (⟨some 53, .fieldAddr 32 (.tmp 4) 3, none⟩, .p) <| .c (⟨some 54, .load 3 (.tmp 53), none⟩, .l) <| .c (⟨some 55, .binOp .mul 3 (.tmp 52) (.tmp 54) 3, none⟩, .p) <| .c (⟨some 56, .binOp .add 3 (.tmp 50) (.tmp 55) 3, none⟩, .p) <| .c (⟨some 57, .move (.tmp 2), none⟩, .p) <| .c (⟨some 58, .binOp .rem 3 (.tmp 56) (.tmp 57) 3, none⟩, .p) <| .c (⟨some 59, .build 32 #[(0, .tmp 19), (1, .tmp 32), (2, .tmp 45), (3, .tmp 58)], none⟩, .p) <| .c (⟨none, .store 32 (.tmp 6) (.tmp 59), none⟩, .f) <| .n) Q a) : LI Try.prog h0 L (.raw (.region id rg54_0 true)) Q a :=
  LI_draw (.c (0, .p) <| .c (1, .l) <| .c (2, .p) <| .c (3, .l) <| .c (4, .p) <| .c (5, .p) <| .c (6, .l) <| .c (7, .p) <| .c (8, .l) <| .c (9, .p) <| .c (10, .p) <| .c (11, .p) <| .c (12, .p) <| .c (13, .p) <| .c (14, .l) <| .c (15, .p) <| .c (16, .l) <| .c (17, .p) <| .c (18, .p) <| .c (19, .l) <| .c (20, .p) <| .c (21, .l) <| .c (22, .p) <| .c (23, .p) <| .c (24, .p) <| .c (25, .p) <| .c (26, .p) <| .c (27, .l) <| .c (28, .p) <| .c (29, .l) <| .c (30, .p) <| .c (31, .p) <| .c (32, .l) <| .c (33, .p) <| .c (34, .l) <| .c (35, .p) <| .c (36, .p) <| .c (37, .p) <| .c (38, .p) <| .c (39, .p) <| .c (40, .l) <| .c (41, .p) <| .c (42, .l) <| .c (43, .p) <| .c (44, .p) <| .c (45, .l) <| .c (46, .p) <| .c (47, .l) <| .c (48, .p) <| .c (49, .p) <| .c (50, .p) <| .c (51, .p) <| .c (52, .p) <| .c (53, .f) <| .n) [53] (by kernel_rfl) (by kernel_rfl) (by kernel_rfl) H

/-- spec.MatrixPower -/
def c18 : IC :=
  (.seq
  (.reg [
    ⟨some 3, .box 32 (.tmp 0), none⟩,
    ⟨some 6, .alloc 32, none⟩,
    ⟨some 7, .assign (.const (.bool false)), none⟩])
  (.seq
  (.seq
  (.reg [
    ⟨some 9, .move (.tmp 2), none⟩,
    ⟨some 10, .call { callee := .value (.func 41), args := #[.tmp 9], argTypes := #[3] }, none⟩,
    ⟨some 11, .unOp .not 4 (.tmp 10), none⟩,
    ⟨some 12, .move (.tmp 11), none⟩,
    ⟨some 13, .load 32 (.tmp 3), some (12, false)⟩,
    ⟨some 14, .move (.tmp 2), some (12, false)⟩,
    ⟨some 15, .call { callee := .value (.func 52), args := #[.tmp 13, .tmp 14], argTypes := #[32, 3] }, some (12, false)⟩,
    ⟨some 16, .unOp .not 4 (.tmp 15), some (12, false)⟩,
    ⟨some 17, .pick (.tmp 12) (.const (.bool true)) (.tmp 16), none⟩,
    ⟨some 18, .move (.tmp 17), none⟩,
    ⟨some 19, .move (.tmp 1), some (18, false)⟩,
    ⟨some 20, .call { callee := .value (.func 53), args := #[.tmp 19], argTypes := #[3] }, some (18, false)⟩,
    ⟨some 21, .unOp .not 4 (.tmp 20), some (18, false)⟩,
    ⟨some 22, .pick (.tmp 18) (.const (.bool true)) (.tmp 21), none⟩])
  (.cond (.tmp 22)
    (.seq
    (.reg [
      ⟨some 23, .build 32 #[], none⟩,
      ⟨none, .store 32 (.tmp 6) (.tmp 23), none⟩,
      ⟨some 7, .assign (.const (.bool false)), none⟩])
    .ret)
    .skip))
  (.seq
  (.reg [
    ⟨some 24, .build 32 #[(0, .const (.int .i64 1)), (3, .const (.int .i64 1))], none⟩,
    ⟨some 8, .alloc 32, none⟩,
    ⟨none, .store 32 (.tmp 8) (.tmp 24), none⟩])
  (.seq
  (.block 0
  (.loop
    (.seq
    (.seq
    (.reg [
      ⟨some 25, .move (.tmp 1), none⟩,
      ⟨some 26, .binOp .gtr 3 (.tmp 25) (.const (.int .i64 0)) 3, none⟩])
    (.cond (.tmp 26)
      .skip
      (.exit 0)))
    (.seq
    (.block 1
    (.seq
    (.seq
    (.reg [
      ⟨some 29, .move (.tmp 1), none⟩,
      ⟨some 30, .binOp .rem 3 (.tmp 29) (.const (.int .i64 2)) 3, none⟩,
      ⟨some 31, .binOp .eql 3 (.tmp 30) (.const (.int .i64 1)) 3, none⟩])
    (.cond (.tmp 31)
      (.reg [
        ⟨some 32, .load 32 (.tmp 8), none⟩,
        ⟨some 33, .load 32 (.tmp 3), none⟩,
        ⟨some 34, .move (.tmp 2), none⟩,
        ⟨some 35, .call { callee := .value (.func 54), args := #[.tmp 32, .tmp 33, .tmp 34], argTypes := #[32, 32, 3] }, none⟩,
        ⟨none, .store 32 (.tmp 8) (.tmp 35), none⟩])
      .skip))
    (.reg [
      ⟨some 36, .load 32 (.tmp 3), none⟩,
      ⟨some 37, .load 32 (.tmp 3), none⟩,
      ⟨some 38, .move (.tmp 2), none⟩,
      ⟨some 39, .call { callee := .value (.func 54), args := #[.tmp 36, .tmp 37, .tmp 38], argTypes := #[32, 32, 3] }, none⟩,
      ⟨none, .store 32 (.tmp 3) (.tmp 39), none⟩])))
    (.reg [
      ⟨some 27, .move (.tmp 1), none⟩,
      ⟨some 28, .binOp .quo 3 (.tmp 27) (.const (.int .i64 2)) 3, none⟩,
      ⟨some 1, .assign (.tmp 28), none⟩])))))
  (.seq
  (.reg [
    ⟨some 40, .load 32 (.tmp 8), none⟩,
    ⟨none, .store 32 (.tmp 6) (.tmp 40), none⟩,
    ⟨some 7, .assign (.const (.bool true)), none⟩])
  .ret)))))
theorem hd18 : Try.f18.body.map dec = some c18 := by kernel_rfl
theorem e18 {R : AV → AH → Prop} {h : AH} (x0 x1 x2 : AV) (H : h.wf → AI Try.prog c18 (RetQ Try.prog [.cell 6 32, .tmp 7] R) [x0, x1, x2, un, un, un, un, un, un, un, un, un, un, un, un, un, un, un, un, un, un, un, un, un, un, un, un, un, un, un, un, un, un, un, un, un, un, un, un, un, un] h) : AC Try.prog 18 [x0, x1, x2] h R :=
  AC_of' (rs := [.cell 6 32, .tmp 7]) Try.func18 (by kernel_rfl) hd18 Try.ntmps18 rfl H

/-- slices.IndexFunc[[]int,int] -/
def c78 : IC :=
  (.seq
  (.reg [
    ⟨some 4, .assign (.const (.int .i64 0)), none⟩])
  (.seq
  (.seq
  (.reg [
    ⟨some 6, .move (.tmp 0), none⟩,
    ⟨some 7, .call { callee := .builtin .len, args := #[.tmp 6], argTypes := #[25] }, none⟩,
    ⟨some 8, .move (.const (.int .i64 0)), none⟩])
  (.block 0
  (.loop
    (.seq
    (.reg [
      ⟨some 9, .binOp .lss 3 (.tmp 8) (.tmp 7) 3, none⟩])
    (.seq
    (.cond (.tmp 9)
      .skip
      (.exit 0))
    (.seq
    (.block 1
    (.seq
    (.reg [
      ⟨some 10, .move (.tmp 8), none⟩,
      ⟨some 5, .assign (.tmp 10), none⟩])
    (.seq
    (.reg [
      ⟨some 11, .move (.tmp 1), none⟩,
      ⟨some 12, .move (.tmp 0), none⟩,
      ⟨some 13, .move (.tmp 5), none⟩,
      ⟨some 14, .indexAddr 25 (.tmp 12) (.tmp 13), none⟩,
      ⟨some 15, .load 3 (.tmp 14), none⟩,
      ⟨some 16, .call { callee := .value (.tmp 11), args := #[.tmp 15], argTypes := #[3] }, none⟩])
    (.cond (.tmp 16)
      (.seq
      (.reg [
        ⟨some 17, .move (.tmp 5), none⟩,
        ⟨some 4, .assign (.tmp 17), none⟩])
      .ret)
      .skip))))
    (.reg [
      ⟨some 18, .binOp .add 3 (.tmp 8) (.const (.int .i64 1)) 3, none⟩,
      ⟨some 8, .move (.tmp 18), none⟩])))))))
  (.seq
  (.reg [
    ⟨some 4, .assign (.const (.int .i64 (-1))), none⟩])
  .ret)))
theorem hd78 : Try.f78.body.map dec = some c78 := by kernel_rfl
theorem e78 {R : AV → AH → Prop} {h : AH} (x0 x1 : AV) (H : h.wf → AI Try.prog c78 (RetQ Try.prog [.tmp 4] R) [x0, x1, un, un, un, un, un, un, un, un, un, un, un, un, un, un, un, un, un] h) : AC Try.prog 78 [x0, x1] h R :=
  AC_of' (rs := [.tmp 4]) Try.func78 (by kernel_rfl) hd78 Try.ntmps78 rfl H

/-- slices.ContainsFunc[[]int,int] -/
def c46 : IC :=
  (.seq
  (.reg [
    ⟨some 4, .assign (.const (.bool false)), none⟩])
  (.seq
  (.reg [
    ⟨some 5, .move (.tmp 0), none⟩,
    ⟨some 6, .move (.tmp 1), none⟩,
    ⟨some 7, .call { callee := .value (.func 78), args := #[.tmp 5, .tmp 6], argTypes := #[25, 41] }, none⟩,
    ⟨some 8, .binOp .geq 3 (.tmp 7) (.const (.int .i64 0)) 3, none⟩,
    ⟨some 4, .assign (.tmp 8), none⟩])
  .ret))
theorem hd46 : Try.f46.body.map dec = some c46 := by kernel_rfl
theorem e46 {R : AV → AH → Prop} {h : AH} (x0 x1 : AV) (H : h.wf → AI Try.prog c46 (RetQ Try.prog [.tmp 4] R) [x0, x1, un, un, un, un, un, un, un] h) : AC Try.prog 46 [x0, x1] h R :=
  AC_of' (rs := [.tmp 4]) Try.func46 (by kernel_rfl) hd46 Try.ntmps46 rfl H

/-- impl.in -/
def c49 : IC :=
  (.seq
  (.reg [
    ⟨some 6, .assign (.const (.bool false)), none⟩])
  (.seq
  (.reg [
    ⟨some 7, .move (.tmp 0), none⟩,
    ⟨some 8, .move (.tmp 1), none⟩,
    ⟨some 9, .binOp .geq 3 (.tmp 7) (.tmp 8) 3, none⟩,
    ⟨some 10, .move (.tmp 9), none⟩,
    ⟨some 11, .move (.tmp 0), some (10, true)⟩,
    ⟨some 12, .move (.tmp 2), some (10, true)⟩,
    ⟨some 13, .binOp .leq 3 (.tmp 11) (.tmp 12) 3, some (10, true)⟩,
    ⟨some 14, .pick (.tmp 10) (.tmp 13) (.const (.bool false)), none⟩,
    ⟨some 6, .assign (.tmp 14), none⟩])
  .ret))
theorem hd49 : Try.f49.body.map dec = some c49 := by kernel_rfl
theorem e49 {R : AV → AH → Prop} {h : AH} (x0 x1 x2 : AV) (H : h.wf → AI Try.prog c49 (RetQ Try.prog [.tmp 6] R) [x0, x1, x2, un, un, un, un, un, un, un, un, un, un, un, un] h) : AC Try.prog 49 [x0, x1, x2] h R :=
  AC_of' (rs := [.tmp 6]) Try.func49 (by kernel_rfl) hd49 Try.ntmps49 rfl H

/-- impl.modulusOk -/
def c76 : IC :=
  (.seq
  (.reg [
    ⟨some 2, .assign (.const (.bool false)), none⟩])
  (.seq
  (.reg [
    ⟨some 3, .move (.tmp 0), none⟩,
    ⟨some 4, .call { callee := .value (.func 49), args := #[.tmp 3, .const (.int .i64 2), .const (.int .i64 10000)], argTypes := #[3, 3, 3] }, none⟩,
    ⟨some 2, .assign (.tmp 4), none⟩])
  .ret))
theorem hd76 : Try.f76.body.map dec = some c76 := by kernel_rfl
theorem e76 {R : AV → AH → Prop} {h : AH} (x0 : AV) (H : h.wf → AI Try.prog c76 (RetQ Try.prog [.tmp 2] R) [x0, un, un, un, un] h) : AC Try.prog 76 [x0] h R :=
  AC_of' (rs := [.tmp 2]) Try.func76 (by kernel_rfl) hd76 Try.ntmps76 rfl H

/-- impl.residuesOk$1 -/
def c77 : IC :=
  (.seq
  (.reg [
    ⟨some 3, .assign (.const (.bool false)), none⟩])
  (.seq
  (.reg [
    ⟨some 4, .move (.tmp 0), none⟩,
    ⟨some 5, .load 3 (.tmp 1), none⟩,
    ⟨some 6, .binOp .sub 3 (.tmp 5) (.const (.int .i64 1)) 3, none⟩,
    ⟨some 7, .call { callee := .value (.func 49), args := #[.tmp 4, .const (.int .i64 0), .tmp 6], argTypes := #[3, 3, 3] }, none⟩,
    ⟨some 8, .unOp .not 4 (.tmp 7), none⟩,
    ⟨some 3, .assign (.tmp 8), none⟩])
  .ret))
theorem hd77 : Try.f77.body.map dec = some c77 := by kernel_rfl
theorem e77 {R : AV → AH → Prop} {h : AH} (x0 x1 : AV) (H : h.wf → AI Try.prog c77 (RetQ Try.prog [.tmp 3] R) [x0, x1, un, un, un, un, un, un, un] h) : AC Try.prog 77 [x0, x1] h R :=
  AC_of' (rs := [.tmp 3]) Try.func77 (by kernel_rfl) hd77 Try.ntmps77 rfl H

/-- impl.residuesOk -/
def c43 : IC :=
  (.seq
  (.reg [
    ⟨some 3, .box 3 (.tmp 1), none⟩,
    ⟨some 4, .assign (.const (.bool false)), none⟩])
  (.seq
  (.reg [
    ⟨some 5, .load 3 (.tmp 3), none⟩,
    ⟨some 6, .call { callee := .value (.func 76), args := #[.tmp 5], argTypes := #[3] }, none⟩,
    ⟨some 7, .move (.tmp 6), none⟩,
    ⟨some 8, .move (.tmp 0), some (7, true)⟩,
    ⟨some 9, .makeFunc (.func 77) #[] #[.tmp 3], some (7, true)⟩,
    ⟨some 10, .call { callee := .value (.func 46), args := #[.tmp 8, .tmp 9], argTypes := #[25, 41] }, some (7, true)⟩,
    ⟨some 11, .unOp .not 4 (.tmp 10), some (7, true)⟩,
    ⟨some 12, .pick (.tmp 7) (.tmp 11) (.const (.bool false)), none⟩,
    ⟨some 4, .assign (.tmp 12), none⟩])
  .ret))
theorem hd43 : Try.f43.body.map dec = some c43 := by kernel_rfl
theorem e43 {R : AV → AH → Prop} {h : AH} (x0 x1 : AV) (H : h.wf → AI Try.prog c43 (RetQ Try.prog [.tmp 4] R) [x0, x1, un, un, un, un, un, un, un, un, un, un, un] h) : AC Try.prog 43 [x0, x1] h R :=
  AC_of' (rs := [.tmp 4]) Try.func43 (by kernel_rfl) hd43 Try.ntmps43 rfl H

/-- impl.exponentOk -/
def c48 : IC :=
  (.seq
  (.reg [
    ⟨some 2, .assign (.const (.bool false)), none⟩])
  (.seq
  (.reg [
    ⟨some 3, .move (.tmp 0), none⟩,
    ⟨some 4, .call { callee := .value (.func 49), args := #[.tmp 3, .const (.int .i64 0), .const (.int .i64 1000000)], argTypes := #[3, 3, 3] }, none⟩,
    ⟨some 2, .assign (.tmp 4), none⟩])
  .ret))
theorem hd48 : Try.f48.body.map dec = some c48 := by kernel_rfl
theorem e48 {R : AV → AH → Prop} {h : AH} (x0 : AV) (H : h.wf → AI Try.prog c48 (RetQ Try.prog [.tmp 2] R) [x0, un, un, un, un] h) : AC Try.prog 48 [x0] h R :=
  AC_of' (rs := [.tmp 2]) Try.func48 (by kernel_rfl) hd48 Try.ntmps48 rfl H

/-- (impl.Matrix).residues -/
def c55 : IC :=
  (.seq
  (.reg [
    ⟨some 1, .box 32 (.tmp 0), none⟩,
    ⟨some 2, .assign (.const (.slice none 0 0)), none⟩])
  (.seq
  (.reg [
    ⟨some 3, .fieldAddr 32 (.tmp 1) 0, none⟩,
    ⟨some 4, .load 3 (.tmp 3), none⟩,
    ⟨some 5, .fieldAddr 32 (.tmp 1) 1, none⟩,
    ⟨some 6, .load 3 (.tmp 5), none⟩,
    ⟨some 7, .fieldAddr 32 (.tmp 1) 2, none⟩,
    ⟨some 8, .load 3 (.tmp 7), none⟩,
    ⟨some 9, .fieldAddr 32 (.tmp 1) 3, none⟩,
    ⟨some 10, .load 3 (.tmp 9), none⟩,
    ⟨some 11, .buildSlice 25 4 #[(0, .tmp 4), (1, .tmp 6), (2, .tmp 8), (3, .tmp 10)], none⟩,
    ⟨some 2, .assign (.tmp 11), none⟩])
  .ret))
theorem hd55 : Try.f55.body.map dec = some c55 := by kernel_rfl
theorem e55 {R : AV → AH → Prop} {h : AH} (x0 : AV) (H : h.wf → AI Try.prog c55 (RetQ Try.prog [.tmp 2] R) [x0, un, un, un, un, un, un, un, un, un, un, un] h) : AC Try.prog 55 [x0] h R :=
  AC_of' (rs := [.tmp 2]) Try.func55 (by kernel_rfl) hd55 Try.ntmps55 rfl H

/-- impl.power[impl.Matrix] -/
def c56 : IC :=
  (.seq
  (.reg [
    ⟨some 4, .box 32 (.tmp 0), none⟩,
    ⟨some 5, .box 32 (.tmp 1), none⟩,
    ⟨some 8, .alloc 32, none⟩])
  (.seq
  (.block 0
  (.loop
    (.seq
    (.seq
    (.reg [
      ⟨some 9, .move (.tmp 2), none⟩,
      ⟨some 10, .binOp .gtr 3 (.tmp 9) (.const (.int .i64 0)) 3, none⟩])
    (.cond (.tmp 10)
      .skip
      (.exit 0)))
    (.seq
    (.block 1
    (.seq
    (.seq
    (.reg [
      ⟨some 13, .move (.tmp 2), none⟩,
      ⟨some 14, .binOp .rem 3 (.tmp 13) (.const (.int .i64 2)) 3, none⟩,
      ⟨some 15, .binOp .eql 3 (.tmp 14) (.const (.int .i64 1)) 3, none⟩])
    (.cond (.tmp 15)
      (.reg [
        ⟨some 16, .move (.tmp 3), none⟩,
        ⟨some 17, .load 32 (.tmp 5), none⟩,
        ⟨some 18, .load 32 (.tmp 4), none⟩,
        ⟨some 19, .call { callee := .value (.tmp 16), args := #[.tmp 17, .tmp 18], argTypes := #[32, 32] }, none⟩,
        ⟨none, .store 32 (.tmp 5) (.tmp 19), none⟩])
      .skip))
    (.reg [
      ⟨some 20, .move (.tmp 3), none⟩,
      ⟨some 21, .load 32 (.tmp 4), none⟩,
      ⟨some 22, .load 32 (.tmp 4), none⟩,
      ⟨some 23, .call { callee := .value (.tmp 20), args := #[.tmp 21, .tmp 22], argTypes := #[32, 32] }, none⟩,
      ⟨none, .store 32 (.tmp 4) (.tmp 23), none⟩])))
    (.reg [
      ⟨some 11, .move (.tmp 2), none⟩,
      ⟨some 12, .binOp .quo 3 (.tmp 11) (.const (.int .i64 2)) 3, none⟩,
      ⟨some 2, .assign (.tmp 12), none⟩])))))
  (.seq
  (.reg [
    ⟨some 24, .load 32 (.tmp 5), none⟩,
    ⟨none, .store 32 (.tmp 8) (.tmp 24), none⟩])
  .ret)))
theorem hd56 : Try.f56.body.map dec = some c56 := by kernel_rfl
theorem e56 {R : AV → AH → Prop} {h : AH} (x0 x1 x2 x3 : AV) (H : h.wf → AI Try.prog c56 (RetQ Try.prog [.cell 8 32] R) [x0, x1, x2, x3, un, un, un, un, un, un, un, un, un, un, un, un, un, un, un, un, un, un, un, un, un] h) : AC Try.prog 56 [x0, x1, x2, x3] h R :=
  AC_of' (rs := [.cell 8 32]) Try.func56 (by kernel_rfl) hd56 Try.ntmps56 rfl H

noncomputable def rg79_0 : Array Oper := rawAt Try.f79 0
-- NO ORDER
/-- impl.matrixTimes$1 -/
noncomputable def c79 : IC :=
  (.seq
  (.reg [
    ⟨some 3, .box 32 (.tmp 0), none⟩,
    ⟨some 4, .box 32 (.tmp 1), none⟩,
    ⟨some 5, .alloc 32, none⟩])
  (.seq
  (.raw (.region 1 rg79_0 true))
  .ret))
theorem hd79 : Try.f79.body.map dec = some c79 := by kernel_rfl
theorem e79 {R : AV → AH → Prop} {h : AH} (x0 x1 x2 : AV) (H : h.wf → AI Try.prog c79 (RetQ Try.prog [.cell 5 32] R) [x0, x1, x2, un, un, un, un, un, un, un, un, un, un, un, un, un, un, un, un, un, un, un, un, un, un, un, un, un, un, un, un, un, un, un, un, un, un, un, un, un, un, un, un, un, un, un, un, un, un, un, un, un, un, un, un, un, un, un, un] h) : AC Try.prog 79 [x0, x1, x2] h R :=
  AC_of' (rs := [.cell 5 32]) Try.func79 (by kernel_rfl) hd79 Try.ntmps79 rfl H
theorem dz79_0 {h0 : AH} {L : List It} {Q : Exit → List AV → List It → Prop} {a : List AV} {id : Nat} (H : LX Try.prog ⟨[53], []⟩ h0 L L (.c (⟨some 6, .fieldAddr 32 (.tmp 3) 0, none⟩, .p) <| .c (⟨some 7, .load 3 (.tmp 6), none⟩, .l) <| .c (⟨some 8, .fieldAddr 32 (.tmp 4) 0, none⟩, .p) <| .c (⟨some 9, .load 3 (.tmp 8), none⟩, .l) <| .c (⟨some 10, .binOp .mul 3 (.tmp 7) (.tmp 9) 3, none⟩, .p) <| .c (⟨some 11, .fieldAddr 32 (.tmp 3) 1, none⟩, .p) <| .c (⟨some 12, .load 3 (.tmp 11), none⟩, .l) <| .c (⟨some 13, .fieldAddr 32 (.tmp 4) 2, none⟩, .p) <| .c (⟨some 14, .load 3 (.tmp 13), none⟩, .l) <| .c (⟨some 15, .binOp .mul 3 (.tmp 12) (.tmp 14) 3, none⟩, .p) <| .c (⟨some 16, .binOp .add 3 (.tmp 10) (.tmp 15) 3, none⟩, .p) <| .c (⟨some 17, .load 3 (.tmp 2), none⟩, .l) <| .c (⟨some 18, .binOp .rem 3 (.tmp 16) (.tmp 17) 3, none⟩, .p) <| .c (⟨some 19, .fieldAddr 32 (.tmp 3) 0, none⟩, .p) <| .c (⟨some 20, .load 3 (.tmp 19), none⟩, .l) <| .c (⟨some 21, .fieldAddr 32 (.tmp 4) 1, none⟩, .p) <| .c (⟨some 22, .load 3 (.tmp 21), none⟩, .l) <| .c (⟨some 23, .binOp .mul 3 (.tmp 20) (.tmp 22) 3, none⟩, .p) <| .c (⟨some 24, .fieldAddr 32 (.tmp 3) 1, none⟩, .p) <| .c (⟨some 25, .load 3 (.tmp 24), none⟩, .l) <| .c (⟨some 26, .fieldAddr 32 (.tmp 4) 3, none⟩, .p) <| .c (⟨some 27, .load 3 (.tmp 26), none⟩, .l) <| .c (⟨some 28, .binOp .mul 3 (.tmp 25) (.tmp 27) 3, none⟩, .p) <| .c (⟨some 29, .binOp .add 3 (.tmp 23) (.tmp 28) 3, none⟩, .p) <| .c (⟨some 30, .load 3 (.tmp 2), none⟩, .l) <| .c (⟨some 31, .binOp .rem 3 (.tmp 29) (.tmp 30) 3, none⟩, .p) <| .c (⟨some 32, .fieldAddr 32 (.tmp 3) 2, none⟩, .p) <| .c (⟨some 33, .load 3 (.tmp 32), none⟩, .l) <| .c (⟨some 34, .fieldAddr 32 (.tmp 4) 0, none⟩, .p) <| .c (⟨some 35, .load 3 (.tmp 34), none⟩, .l) <| .c (⟨some 36, .binOp .mul 3 (.tmp 33) (.tmp 35) 3, none⟩, .p) <| .c (⟨some 37, .fieldAddr 32 (.tmp 3) 3, none⟩, .p) <| .c (⟨some 38, .load 3 (.tmp 37), none⟩, .l) <| .c (⟨some 39, .fieldAddr 32 (.tmp 4) 2, none⟩, .p) <| .c (⟨some 40, .load 3 (.tmp 39), none⟩, .l) <| .c (⟨some 41, .binOp .mul 3 (.tmp 38) (.tmp 40) 3, none⟩, .p) <| .c (⟨some 42, .binOp .add 3 (.tmp 36) (.tmp 41) 3, none⟩, .p) <| .c (⟨some 43, .load 3 (.tmp 2), none⟩, .l) <| .c (⟨some 44, .binOp .rem 3 (.tmp 42) (.tmp 43) 3, none⟩, .p) <| .c (⟨some 45, .fieldAddr 32 (.tmp 3) 2, none⟩, .p) <| .c (⟨some 46, .load 3 (.tmp 45), none⟩, .l) <| .c (⟨some 47, .fieldAddr 32 (.tmp 4) 1, none⟩, .p) <| .c (⟨some 48, .load 3 (.tmp 47), none⟩, .l) <| .c (⟨some 49, .binOp .mul 3 (.tmp 46) (.tmp 48) 3, none⟩, .p) <| .c (⟨some 50, .fieldAddr 32 (.tmp 3) 3, none⟩, .p) <| .c (⟨some 51, .load 3 (.tmp 50), none⟩, .l) <| .c (⟨some 52, .fieldAddr 32 (.tmp 4) 3, none⟩, .p) <| .c (⟨some 53, .load 3 (.tmp 52), none⟩, .l) <| .c (⟨some 54, .binOp .mul 3 (.tmp 51) (.tmp 53) 3, none⟩, .p) <| .c (⟨some 55, .binOp .add 3 (.tmp 49) (.tmp 54) 3, none⟩, .p) <| .c (⟨some 56, .load 3 (.tmp 2), none⟩, .l) <| .c (⟨some 57, .binOp .rem 3 (.tmp 55) (.tmp 56) 3, none⟩, .p) <| .c (⟨some 58, .build 32 #[(0, .tmp 18), (1, .tmp 31), (2, .tmp 44), (3, .tmp 57)], none⟩, .p) <| .c (⟨none, .store 32 (.tmp 5) (.tmp 58), none⟩, .f) <| .n) Q a) : LI Try.prog h0 L (.raw (.region id rg79_0 true)) Q a :=
  LI_draw (.c (0, .p) <| .c (1, .l) <| .c (2, .p) <| .c (3, .l) <| .c (4, .p) <| .c (5, .p) <| .c (6, .l) <| .c (7, .p) <| .c (8, .l) <| .c (9, .p) <| .c (10, .p) <| .c (11, .l) <| .c (12, .p) <| .c (13, .p) <| .c (14, .l) <| .c (15, .p) <| .c (16, .l) <| .c (17, .p) <| .c (18, .p) <| .c (19, .l) <| .c (20, .p) <| .c (21, .l) <| .c (22, .p) <| .c (23, .p) <| .c (24, .l) <| .c (25, .p) <| .c (26, .p) <| .c (27, .l) <| .c (28, .p) <| .c (29, .l) <| .c (30, .p) <| .c (31, .p) <| .c (32, .l) <| .c (33, .p) <| .c (34, .l) <| .c (35, .p) <| .c (36, .p) <| .c (37, .l) <| .c (38, .p) <| .c (39, .p) <| .c (40, .l) <| .c (41, .p) <| .c (42, .l) <| .c (43, .p) <| .c (44, .p) <| .c (45, .l) <| .c (46, .p) <| .c (47, .l) <| .c (48, .p) <| .c (49, .p) <| .c (50, .l) <| .c (51, .p) <| .c (52, .p) <| .c (53, .f) <| .n) [53] (by kernel_rfl) (by kernel_rfl) (by kernel_rfl) H

/-- impl.matrixTimes -/
def c57 : IC :=
  (.seq
  (.reg [
    ⟨some 1, .box 3 (.tmp 0), none⟩,
    ⟨some 2, .assign (.const .nilFunc), none⟩])
  (.seq
  (.reg [
    ⟨some 3, .makeFunc (.func 79) #[] #[.tmp 1], none⟩,
    ⟨some 2, .assign (.tmp 3), none⟩])
  .ret))
theorem hd57 : Try.f57.body.map dec = some c57 := by kernel_rfl
theorem e57 {R : AV → AH → Prop} {h : AH} (x0 : AV) (H : h.wf → AI Try.prog c57 (RetQ Try.prog [.tmp 2] R) [x0, un, un, un] h) : AC Try.prog 57 [x0] h R :=
  AC_of' (rs := [.tmp 2]) Try.func57 (by kernel_rfl) hd57 Try.ntmps57 rfl H

noncomputable def rg20_0 : Array Oper := rawAt Try.f20 0
/-- impl.MatrixPower -/
noncomputable def c20 : IC :=
  (.seq
  (.reg [
    ⟨some 3, .box 32 (.tmp 0), none⟩,
    ⟨some 6, .alloc 32, none⟩,
    ⟨some 7, .assign (.const (.bool false)), none⟩])
  (.seq
  (.seq
  (.reg [
    ⟨some 8, .load 32 (.tmp 3), none⟩,
    ⟨some 9, .call { callee := .value (.func 55), args := #[.tmp 8], argTypes := #[32] }, none⟩,
    ⟨some 10, .move (.tmp 2), none⟩,
    ⟨some 11, .call { callee := .value (.func 43), args := #[.tmp 9, .tmp 10], argTypes := #[25, 3] }, none⟩,
    ⟨some 12, .unOp .not 4 (.tmp 11), none⟩,
    ⟨some 13, .move (.tmp 12), none⟩,
    ⟨some 14, .move (.tmp 1), some (13, false)⟩,
    ⟨some 15, .call { callee := .value (.func 48), args := #[.tmp 14], argTypes := #[3] }, some (13, false)⟩,
    ⟨some 16, .unOp .not 4 (.tmp 15), some (13, false)⟩,
    ⟨some 17, .pick (.tmp 13) (.const (.bool true)) (.tmp 16), none⟩])
  (.cond (.tmp 17)
    (.seq
    (.reg [
      ⟨some 18, .build 32 #[], none⟩,
      ⟨none, .store 32 (.tmp 6) (.tmp 18), none⟩,
      ⟨some 7, .assign (.const (.bool false)), none⟩])
    .ret)
    .skip))
  (.seq
  (.raw (.region 3 rg20_0 true))
  .ret)))
theorem hd20 : Try.f20.body.map dec = some c20 := by kernel_rfl
theorem e20 {R : AV → AH → Prop} {h : AH} (x0 x1 x2 : AV) (H : h.wf → AI Try.prog c20 (RetQ Try.prog [.cell 6 32, .tmp 7] R) [x0, x1, x2, un, un, un, un, un, un, un, un, un, un, un, un, un, un, un, un, un, un, un, un, un, un] h) : AC Try.prog 20 [x0, x1, x2] h R :=
  AC_of' (rs := [.cell 6 32, .tmp 7]) Try.func20 (by kernel_rfl) hd20 Try.ntmps20 rfl H
theorem dz20_0 {h0 : AH} {L : List It} {Q : Exit → List AV → List It → Prop} {a : List AV} {id : Nat} (H : LX Try.prog ⟨[6], []⟩ h0 L L (.c (⟨some 19, .load 32 (.tmp 3), none⟩, .l) <| .c (⟨some 20, .build 32 #[(0, .const (.int .i64 1)), (1, .const (.int .i64 0)), (2, .const (.int .i64 0)), (3, .const (.int .i64 1))], none⟩, .p) <| .c (⟨some 21, .move (.tmp 1), none⟩, .p) <| .c (⟨some 22, .move (.tmp 2), none⟩, .p) <| .c (⟨some 23, .call { callee := .value (.func 57), args := #[.tmp 22], argTypes := #[3] }, none⟩, .e) <| .c (⟨some 24, .call { callee := .value (.func 56), args := #[.tmp 19, .tmp 20, .tmp 21, .tmp 23], argTypes := #[32, 32, 3, 71] }, none⟩, .e) <| .c (⟨none, .store 32 (.tmp 6) (.tmp 24), none⟩, .f) <| .c (⟨some 7, .assign (.const (.bool true)), none⟩, .p) <| .n) Q a) : LI Try.prog h0 L (.raw (.region id rg20_0 true)) Q a :=
  LI_draw (.c (0, .l) <| .c (1, .p) <| .c (2, .p) <| .c (3, .p) <| .c (4, .e) <| .c (5, .e) <| .c (6, .f) <| .c (7, .p) <| .n) [6] (by kernel_rfl) (by kernel_rfl) (by kernel_rfl) H
theorem db20_0 {h0 : AH} {L : List It} {Q : Exit → List AV → List It → Prop} {a : List AV} {id : Nat} (K : List (Nat × List AV)) (hK : ∀ x ∈ K, It.pt x.1 x.2 ∈ L) (H : LX Try.prog ⟨[4, 5, 6], K⟩ h0 L L (.c (⟨some 20, .build 32 #[(0, .const (.int .i64 1)), (1, .const (.int .i64 0)), (2, .const (.int .i64 0)), (3, .const (.int .i64 1))], none⟩, .p) <| .c (⟨some 21, .move (.tmp 1), none⟩, .p) <| .c (⟨some 22, .move (.tmp 2), none⟩, .p) <| .t (.c (⟨some 19, .load 32 (.tmp 3), none⟩, .e) <| .c (⟨some 23, .call { callee := .value (.func 57), args := #[.tmp 22], argTypes := #[3] }, none⟩, .f) <| .c (⟨some 24, .call { callee := .value (.func 56), args := #[.tmp 19, .tmp 20, .tmp 21, .tmp 23], argTypes := #[32, 32, 3, 71] }, none⟩, .f) <| .c (⟨none, .store 32 (.tmp 6) (.tmp 24), none⟩, .f) <| .c (⟨some 7, .assign (.const (.bool true)), none⟩, .p) <| .n) (.c (⟨some 23, .call { callee := .value (.func 57), args := #[.tmp 22], argTypes := #[3] }, none⟩, .f) <| .c (⟨some 19, .load 32 (.tmp 3), none⟩, .e) <| .c (⟨some 24, .call { callee := .value (.func 56), args := #[.tmp 19, .tmp 20, .tmp 21, .tmp 23], argTypes := #[32, 32, 3, 71] }, none⟩, .f) <| .c (⟨none, .store 32 (.tmp 6) (.tmp 24), none⟩, .f) <| .c (⟨some 7, .assign (.const (.bool true)), none⟩, .p) <| .n)) Q a) : LI Try.prog h0 L (.raw (.region id rg20_0 true)) Q a :=
  LI_drawK (.c (1, .p) <| .c (2, .p) <| .c (3, .p) <| .t (.c (0, .e) <| .c (4, .f) <| .c (5, .f) <| .c (6, .f) <| .c (7, .p) <| .n) (.c (4, .f) <| .c (0, .e) <| .c (5, .f) <| .c (6, .f) <| .c (7, .p) <| .n)) [4, 5, 6] K hK (by kernel_rfl) (by kernel_rfl) (by kernel_rfl) H
theorem dr20_0 (m : Nat) {Q : Exit → List AV → AH → Prop} {a : List AV} {h : AH} {id : Nat} (H : AX Try.prog m h [(⟨some 19, .load 32 (.tmp 3), none⟩, true),
  (⟨some 20, .build 32 #[(0, .const (.int .i64 1)), (1, .const (.int .i64 0)), (2, .const (.int .i64 0)), (3, .const (.int .i64 1))], none⟩, true),
  (⟨some 21, .move (.tmp 1), none⟩, true),
  (⟨some 22, .move (.tmp 2), none⟩, true),
  (⟨some 23, .call { callee := .value (.func 57), args := #[.tmp 22], argTypes := #[3] }, none⟩, false),
  (⟨some 24, .call { callee := .value (.func 56), args := #[.tmp 19, .tmp 20, .tmp 21, .tmp 23], argTypes := #[32, 32, 3, 71] }, none⟩, false),
  (⟨none, .store 32 (.tmp 6) (.tmp 24), none⟩, false),
  (⟨some 7, .assign (.const (.bool true)), none⟩, true)] (fun a' h' => Q .normal a' h') a h) : AI Try.prog (.raw (.region id rg20_0 true)) Q a h :=
  AI_draw [(0, true), (1, true), (2, true), (3, true), (4, false), (5, false), (6, false), (7, true)] m (by kernel_rfl) (by kernel_rfl) (by kernel_rfl) H

/-- spec.MatrixProduct -/
def c22 : IC :=
  (.seq
  (.reg [
    ⟨some 3, .box 32 (.tmp 0), none⟩,
    ⟨some 4, .box 32 (.tmp 1), none⟩,
    ⟨some 6, .alloc 32, none⟩,
    ⟨some 7, .assign (.const (.bool false)), none⟩])
  (.seq
  (.seq
  (.reg [
    ⟨some 8, .move (.tmp 2), none⟩,
    ⟨some 9, .call { callee := .value (.func 41), args := #[.tmp 8], argTypes := #[3] }, none⟩,
    ⟨some 10, .unOp .not 4 (.tmp 9), none⟩,
    ⟨some 11, .move (.tmp 10), none⟩,
    ⟨some 12, .load 32 (.tmp 3), some (11, false)⟩,
    ⟨some 13, .move (.tmp 2), some (11, false)⟩,
    ⟨some 14, .call { callee := .value (.func 52), args := #[.tmp 12, .tmp 13], argTypes := #[32, 3] }, some (11, false)⟩,
    ⟨some 15, .unOp .not 4 (.tmp 14), some (11, false)⟩,
    ⟨some 16, .pick (.tmp 11) (.const (.bool true)) (.tmp 15), none⟩,
    ⟨some 17, .move (.tmp 16), none⟩,
    ⟨some 18, .load 32 (.tmp 4), some (17, false)⟩,
    ⟨some 19, .move (.tmp 2), some (17, false)⟩,
    ⟨some 20, .call { callee := .value (.func 52), args := #[.tmp 18, .tmp 19], argTypes := #[32, 3] }, some (17, false)⟩,
    ⟨some 21, .unOp .not 4 (.tmp 20), some (17, false)⟩,
    ⟨some 22, .pick (.tmp 17) (.const (.bool true)) (.tmp 21), none⟩])
  (.cond (.tmp 22)
    (.seq
    (.reg [
      ⟨some 23, .build 32 #[], none⟩,
      ⟨none, .store 32 (.tmp 6) (.tmp 23), none⟩,
      ⟨some 7, .assign (.const (.bool false)), none⟩])
    .ret)
    .skip))
  (.seq
  (.reg [
    ⟨some 24, .load 32 (.tmp 3), none⟩,
    ⟨some 25, .load 32 (.tmp 4), none⟩,
    ⟨some 26, .move (.tmp 2), none⟩,
    ⟨some 27, .call { callee := .value (.func 54), args := #[.tmp 24, .tmp 25, .tmp 26], argTypes := #[32, 32, 3] }, none⟩,
    ⟨none, .store 32 (.tmp 6) (.tmp 27), none⟩,
    ⟨some 7, .assign (.const (.bool true)), none⟩])
  .ret)))
theorem hd22 : Try.f22.body.map dec = some c22 := by kernel_rfl
theorem e22 {R : AV → AH → Prop} {h : AH} (x0 x1 x2 : AV) (H : h.wf → AI Try.prog c22 (RetQ Try.prog [.cell 6 32, .tmp 7] R) [x0, x1, x2, un, un, un, un, un, un, un, un, un, un, un, un, un, un, un, un, un, un, un, un, un, un, un, un, un] h) : AC Try.prog 22 [x0, x1, x2] h R :=
  AC_of' (rs := [.cell 6 32, .tmp 7]) Try.func22 (by kernel_rfl) hd22 Try.ntmps22 rfl H

/-- slices.Grow[[]int,int] -/
def c80 : IC :=
  (.seq
  (.reg [
    ⟨some 4, .assign (.const (.slice none 0 0)), none⟩])
  (.seq
  (.seq
  (.reg [
    ⟨some 5, .move (.tmp 1), none⟩,
    ⟨some 6, .binOp .lss 3 (.tmp 5) (.const (.int .i64 0)) 3, none⟩])
  (.cond (.tmp 6)
    (.reg [
      ⟨some 7, .makeInterface 9 (.const (.string { data := #[99, 97, 110, 110, 111, 116, 32, 98, 101, 32, 110, 101, 103, 97, 116, 105, 118, 101] })), none⟩,
      ⟨none, .panic (.tmp 7), none⟩])
    .skip))
  (.seq
  (.seq
  (.reg [
    ⟨some 8, .move (.tmp 1), none⟩,
    ⟨some 9, .move (.tmp 0), none⟩,
    ⟨some 10, .call { callee := .builtin .cap, args := #[.tmp 9], argTypes := #[25] }, none⟩,
    ⟨some 11, .move (.tmp 0), none⟩,
    ⟨some 12, .call { callee := .builtin .len, args := #[.tmp 11], argTypes := #[25] }, none⟩,
    ⟨some 13, .binOp .sub 3 (.tmp 10) (.tmp 12) 3, none⟩,
    ⟨some 14, .binOp .sub 3 (.tmp 8) (.tmp 13) 3, none⟩,
    ⟨some 1, .assign (.tmp 14), none⟩])
  (.seq
  (.reg [
    ⟨some 15, .move (.tmp 1), none⟩,
    ⟨some 16, .binOp .gtr 3 (.tmp 15) (.const (.int .i64 0)) 3, none⟩])
  (.cond (.tmp 16)
    (.reg [
      ⟨some 17, .move (.tmp 0), none⟩,
      ⟨some 18, .move (.tmp 0), none⟩,
      ⟨some 19, .call { callee := .builtin .cap, args := #[.tmp 18], argTypes := #[25] }, none⟩,
      ⟨some 20, .slice 25 (.tmp 17) none (some (.tmp 19)) none, none⟩,
      ⟨some 21, .move (.tmp 1), none⟩,
      ⟨some 22, .call { callee := .builtin .append, args := #[.tmp 20, .tmp 21], argTypes := #[25, 3] }, none⟩,
      ⟨some 23, .move (.tmp 0), none⟩,
      ⟨some 24, .call { callee := .builtin .len, args := #[.tmp 23], argTypes := #[25] }, none⟩,
      ⟨some 25, .slice 25 (.tmp 22) none (some (.tmp 24)) none, none⟩,
      ⟨some 0, .assign (.tmp 25), none⟩])
    .skip)))
  (.seq
  (.reg [
    ⟨some 26, .move (.tmp 0), none⟩,
    ⟨some 4, .assign (.tmp 26), none⟩])
  .ret))))
theorem hd80 : Try.f80.body.map dec = some c80 := by kernel_rfl
theorem e80 {R : AV → AH → Prop} {h : AH} (x0 x1 : AV) (H : h.wf → AI Try.prog c80 (RetQ Try.prog [.tmp 4] R) [x0, x1, un, un, un, un, un, un, un, un, un, un, un, un, un, un, un, un, un, un, un, un, un, un, un, un, un] h) : AC Try.prog 80 [x0, x1] h R :=
  AC_of' (rs := [.tmp 4]) Try.func80 (by kernel_rfl) hd80 Try.ntmps80 rfl H

/-- slices.Concat[[]int,int] -/
def c58 : IC :=
  (.seq
  (.reg [
    ⟨some 2, .assign (.const (.slice none 0 0)), none⟩])
  (.seq
  (.reg [
    ⟨some 3, .assign (.const (.int .i64 0)), none⟩])
  (.seq
  (.seq
  (.reg [
    ⟨some 9, .move (.tmp 0), none⟩,
    ⟨some 10, .call { callee := .builtin .len, args := #[.tmp 9], argTypes := #[42] }, none⟩,
    ⟨some 11, .move (.const (.int .i64 0)), none⟩])
  (.block 0
  (.loop
    (.seq
    (.reg [
      ⟨some 12, .binOp .lss 3 (.tmp 11) (.tmp 10) 3, none⟩])
    (.seq
    (.cond (.tmp 12)
      .skip
      (.exit 0))
    (.seq
    (.block 1
    (.seq
    (.reg [
      ⟨some 13, .indexAddr 42 (.tmp 9) (.tmp 11), none⟩,
      ⟨some 14, .load 25 (.tmp 13), none⟩,
      ⟨some 5, .assign (.tmp 14), none⟩])
    (.seq
    (.reg [
      ⟨some 15, .move (.tmp 3), none⟩,
      ⟨some 16, .move (.tmp 5), none⟩,
      ⟨some 17, .call { callee := .builtin .len, args := #[.tmp 16], argTypes := #[25] }, none⟩,
      ⟨some 18, .binOp .add 3 (.tmp 15) (.tmp 17) 3, none⟩,
      ⟨some 3, .assign (.tmp 18), none⟩])
    (.seq
    (.reg [
      ⟨some 19, .move (.tmp 3), none⟩,
      ⟨some 20, .binOp .lss 3 (.tmp 19) (.const (.int .i64 0)) 3, none⟩])
    (.cond (.tmp 20)
      (.reg [
        ⟨some 21, .makeInterface 9 (.const (.string { data := #[108, 101, 110, 32, 111, 117, 116, 32, 111, 102, 32, 114, 97, 110, 103, 101] })), none⟩,
        ⟨none, .panic (.tmp 21), none⟩])
      .skip)))))
    (.reg [
      ⟨some 22, .binOp .add 3 (.tmp 11) (.const (.int .i64 1)) 3, none⟩,
      ⟨some 11, .move (.tmp 22), none⟩])))))))
  (.seq
  (.reg [
    ⟨some 23, .move (.tmp 3), none⟩,
    ⟨some 24, .call { callee := .value (.func 80), args := #[.const (.slice none 0 0), .tmp 23], argTypes := #[25, 3] }, none⟩,
    ⟨some 6, .assign (.tmp 24), none⟩])
  (.seq
  (.seq
  (.reg [
    ⟨some 25, .move (.tmp 0), none⟩,
    ⟨some 26, .call { callee := .builtin .len, args := #[.tmp 25], argTypes := #[42] }, none⟩,
    ⟨some 27, .move (.const (.int .i64 0)), none⟩])
  (.block 2
  (.loop
    (.seq
    (.reg [
      ⟨some 28, .binOp .lss 3 (.tmp 27) (.tmp 26) 3, none⟩])
    (.seq
    (.cond (.tmp 28)
      .skip
      (.exit 2))
    (.seq
    (.block 3
    (.seq
    (.reg [
      ⟨some 29, .indexAddr 42 (.tmp 25) (.tmp 27), none⟩,
      ⟨some 30, .load 25 (.tmp 29), none⟩,
      ⟨some 8, .assign (.tmp 30), none⟩])
    (.reg [
      ⟨some 31, .move (.tmp 6), none⟩,
      ⟨some 32, .move (.tmp 8), none⟩,
      ⟨some 33, .call { callee := .builtin .append, args := #[.tmp 31, .tmp 32], argTypes := #[25, 25] }, none⟩,
      ⟨some 6, .assign (.tmp 33), none⟩])))
    (.reg [
      ⟨some 34, .binOp .add 3 (.tmp 27) (.const (.int .i64 1)) 3, none⟩,
      ⟨some 27, .move (.tmp 34), none⟩])))))))
  (.seq
  (.reg [
    ⟨some 35, .move (.tmp 6), none⟩,
    ⟨some 2, .assign (.tmp 35), none⟩])
  .ret))))))
theorem hd58 : Try.f58.body.map dec = some c58 := by kernel_rfl
theorem e58 {R : AV → AH → Prop} {h : AH} (x0 : AV) (H : h.wf → AI Try.prog c58 (RetQ Try.prog [.tmp 2] R) [x0, un, un, un, un, un, un, un, un, un, un, un, un, un, un, un, un, un, un, un, un, un, un, un, un, un, un, un, un, un, un, un, un, un, un, un] h) : AC Try.prog 58 [x0] h R :=
  AC_of' (rs := [.tmp 2]) Try.func58 (by kernel_rfl) hd58 Try.ntmps58 rfl H

noncomputable def rg23_0 : Array Oper := rawAt Try.f23 0
noncomputable def rg23_1 : Array Oper := rawAt Try.f23 1
/-- impl.MatrixProduct -/
noncomputable def c23 : IC :=
  (.seq
  (.reg [
    ⟨some 3, .box 32 (.tmp 0), none⟩,
    ⟨some 4, .box 32 (.tmp 1), none⟩,
    ⟨some 6, .alloc 32, none⟩,
    ⟨some 7, .assign (.const (.bool false)), none⟩])
  (.seq
  (.seq
  (.raw (.region 1 rg23_0 true))
  (.cond (.tmp 16)
    (.seq
    (.reg [
      ⟨some 17, .build 32 #[], none⟩,
      ⟨none, .store 32 (.tmp 6) (.tmp 17), none⟩,
      ⟨some 7, .assign (.const (.bool false)), none⟩])
    .ret)
    .skip))
  (.seq
  (.raw (.region 3 rg23_1 true))
  .ret)))
theorem hd23 : Try.f23.body.map dec = some c23 := by kernel_rfl
theorem e23 {R : AV → AH → Prop} {h : AH} (x0 x1 x2 : AV) (H : h.wf → AI Try.prog c23 (RetQ Try.prog [.cell 6 32, .tmp 7] R) [x0, x1, x2, un, un, un, un, un, un, un, un, un, un, un, un, un, un, un, un, un, un, un, un] h) : AC Try.prog 23 [x0, x1, x2] h R :=
  AC_of' (rs := [.cell 6 32, .tmp 7]) Try.func23 (by kernel_rfl) hd23 Try.ntmps23 rfl H
theorem dz23_0 {h0 : AH} {L : List It} {Q : Exit → List AV → List It → Prop} {a : List AV} {id : Nat} (H : LX Try.prog ⟨[], []⟩ h0 L L (.c (⟨some 8, .load 32 (.tmp 3), none⟩, .l) <| .c (⟨some 10, .load 32 (.tmp 4), none⟩, .l) <| .c (⟨some 14, .move (.tmp 2), none⟩, .p) <| .c (⟨some 9, .call { callee := .value (.func 55), args := #[.tmp 8], argTypes := #[32] }, none⟩, .e) <| .c (⟨some 11, .call { callee := .value (.func 55), args := #[.tmp 10], argTypes := #[32] }, none⟩, .e) <| .c (⟨some 12, .buildSlice 42 2 #[(0, .tmp 9), (1, .tmp 11)], none⟩, .e) <| .c (⟨some 13, .call { callee := .value (.func 58), args := #[.tmp 12], argTypes := #[42] }, none⟩, .e) <| .c (⟨some 15, .call { callee := .value (.func 43), args := #[.tmp 13, .tmp 14], argTypes := #[25, 3] }, none⟩, .e) <| .c (⟨some 16, .unOp .not 4 (.tmp 15), none⟩, .p) <| .n) Q a) : LI Try.prog h0 L (.raw (.region id rg23_0 true)) Q a :=
  LI_draw (.c (0, .l) <| .c (2, .l) <| .c (6, .p) <| .c (1, .e) <| .c (3, .e) <| .c (4, .e) <| .c (5, .e) <| .c (7, .e) <| .c (8, .p) <| .n) [] (by kernel_rfl) (by kernel_rfl) (by kernel_rfl) H
theorem db23_0 {h0 : AH} {L : List It} {Q : Exit → List AV → List It → Prop} {a : List AV} {id : Nat} (K : List (Nat × List AV)) (hK : ∀ x ∈ K, It.pt x.1 x.2 ∈ L) (H : LX Try.prog ⟨[1, 3, 4, 5, 7], K⟩ h0 L L (.c (⟨some 8, .load 32 (.tmp 3), none⟩, .l) <| .c (⟨some 14, .move (.tmp 2), none⟩, .p) <| .t (.c (⟨some 9, .call { callee := .value (.func 55), args := #[.tmp 8], argTypes := #[32] }, none⟩, .f) <| .c (⟨some 10, .load 32 (.tmp 4), none⟩, .e) <| .c (⟨some 11, .call { callee := .value (.func 55), args := #[.tmp 10], argTypes := #[32] }, none⟩, .f) <| .c (⟨some 12, .buildSlice 42 2 #[(0, .tmp 9), (1, .tmp 11)], none⟩, .f) <| .c (⟨some 13, .call { callee := .value (.func 58), args := #[.tmp 12], argTypes := #[42] }, none⟩, .f) <| .c (⟨some 15, .call { callee := .value (.func 43), args := #[.tmp 13, .tmp 14], argTypes := #[25, 3] }, none⟩, .f) <| .c (⟨some 16, .unOp .not 4 (.tmp 15), none⟩, .p) <| .n) (.c (⟨some 10, .load 32 (.tmp 4), none⟩, .e) <| .c (⟨some 9, .call { callee := .value (.func 55), args := #[.tmp 8], argTypes := #[32] }, none⟩, .f) <| .c (⟨some 11, .call { callee := .value (.func 55), args := #[.tmp 10], argTypes := #[32] }, none⟩, .f) <| .c (⟨some 12, .buildSlice 42 2 #[(0, .tmp 9), (1, .tmp 11)], none⟩, .f) <| .c (⟨some 13, .call { callee := .value (.func 58), args := #[.tmp 12], argTypes := #[42] }, none⟩, .f) <| .c (⟨some 15, .call { callee := .value (.func 43), args := #[.tmp 13, .tmp 14], argTypes := #[25, 3] }, none⟩, .f) <| .c (⟨some 16, .unOp .not 4 (.tmp 15), none⟩, .p) <| .n)) Q a) : LI Try.prog h0 L (.raw (.region id rg23_0 true)) Q a :=
  LI_drawK (.c (0, .l) <| .c (6, .p) <| .t (.c (1, .f) <| .c (2, .e) <| .c (3, .f) <| .c (4, .f) <| .c (5, .f) <| .c (7, .f) <| .c (8, .p) <| .n) (.c (2, .e) <| .c (1, .f) <| .c (3, .f) <| .c (4, .f) <| .c (5, .f) <| .c (7, .f) <| .c (8, .p) <| .n)) [1, 3, 4, 5, 7] K hK (by kernel_rfl) (by kernel_rfl) (by kernel_rfl) H
theorem dr23_0 (m : Nat) {Q : Exit → List AV → AH → Prop} {a : List AV} {h : AH} {id : Nat} (H : AX Try.prog m h [(⟨some 8, .load 32 (.tmp 3), none⟩, true),
  (⟨some 10, .load 32 (.tmp 4), none⟩, true),
  (⟨some 14, .move (.tmp 2), none⟩, true),
  (⟨some 9, .call { callee := .value (.func 55), args := #[.tmp 8], argTypes := #[32] }, none⟩, false),
  (⟨some 11, .call { callee := .value (.func 55), args := #[.tmp 10], argTypes := #[32] }, none⟩, false),
  (⟨some 12, .buildSlice 42 2 #[(0, .tmp 9), (1, .tmp 11)], none⟩, false),
  (⟨some 13, .call { callee := .value (.func 58), args := #[.tmp 12], argTypes := #[42] }, none⟩, false),
  (⟨some 15, .call { callee := .value (.func 43), args := #[.tmp 13, .tmp 14], argTypes := #[25, 3] }, none⟩, false),
  (⟨some 16, .unOp .not 4 (.tmp 15), none⟩, true)] (fun a' h' => Q .normal a' h') a h) : AI Try.prog (.raw (.region id rg23_0 true)) Q a h :=
  AI_draw [(0, true), (2, true), (6, true), (1, false), (3, false), (4, false), (5, false), (7, false), (8, true)] m (by kernel_rfl) (by kernel_rfl) (by kernel_rfl) H
theorem dz23_1 {h0 : AH} {L : List It} {Q : Exit → List AV → List It → Prop} {a : List AV} {id : Nat} (H : LX Try.prog ⟨[5], []⟩ h0 L L (.c (⟨some 18, .move (.tmp 2), none⟩, .p) <| .c (⟨some 20, .load 32 (.tmp 3), none⟩, .l) <| .c (⟨some 21, .load 32 (.tmp 4), none⟩, .l) <| .c (⟨some 19, .call { callee := .value (.func 57), args := #[.tmp 18], argTypes := #[3] }, none⟩, .e) <| .c (⟨some 22, .call { callee := .value (.tmp 19), args := #[.tmp 20, .tmp 21], argTypes := #[32, 32] }, none⟩, .e) <| .c (⟨none, .store 32 (.tmp 6) (.tmp 22), none⟩, .f) <| .c (⟨some 7, .assign (.const (.bool true)), none⟩, .p) <| .n) Q a) : LI Try.prog h0 L (.raw (.region id rg23_1 true)) Q a :=
  LI_draw (.c (0, .p) <| .c (2, .l) <| .c (3, .l) <| .c (1, .e) <| .c (4, .e) <| .c (5, .f) <| .c (6, .p) <| .n) [5] (by kernel_rfl) (by kernel_rfl) (by kernel_rfl) H
theorem db23_1 {h0 : AH} {L : List It} {Q : Exit → List AV → List It → Prop} {a : List AV} {id : Nat} (K : List (Nat × List AV)) (hK : ∀ x ∈ K, It.pt x.1 x.2 ∈ L) (H : LX Try.prog ⟨[1, 4, 5], K⟩ h0 L L (.c (⟨some 18, .move (.tmp 2), none⟩, .p) <| .t (.c (⟨some 19, .call { callee := .value (.func 57), args := #[.tmp 18], argTypes := #[3] }, none⟩, .f) <| .t (.c (⟨some 20, .load 32 (.tmp 3), none⟩, .e) <| .c (⟨some 21, .load 32 (.tmp 4), none⟩, .e) <| .c (⟨some 22, .call { callee := .value (.tmp 19), args := #[.tmp 20, .tmp 21], argTypes := #[32, 32] }, none⟩, .f) <| .c (⟨none, .store 32 (.tmp 6) (.tmp 22), none⟩, .f) <| .c (⟨some 7, .assign (.const (.bool true)), none⟩, .p) <| .n) (.c (⟨some 21, .load 32 (.tmp 4), none⟩, .e) <| .c (⟨some 20, .load 32 (.tmp 3), none⟩, .e) <| .c (⟨some 22, .call { callee := .value (.tmp 19), args := #[.tmp 20, .tmp 21], argTypes := #[32, 32] }, none⟩, .f) <| .c (⟨none, .store 32 (.tmp 6) (.tmp 22), none⟩, .f) <| .c (⟨some 7, .assign (.const (.bool true)), none⟩, .p) <| .n)) (.t (.c (⟨some 20, .load 32 (.tmp 3), none⟩, .e) <| .t (.c (⟨some 19, .call { callee := .value (.func 57), args := #[.tmp 18], argTypes := #[3] }, none⟩, .f) <| .c (⟨some 21, .load 32 (.tmp 4), none⟩, .e) <| .c (⟨some 22, .call { callee := .value (.tmp 19), args := #[.tmp 20, .tmp 21], argTypes := #[32, 32] }, none⟩, .f) <| .c (⟨none, .store 32 (.tmp 6) (.tmp 22), none⟩, .f) <| .c (⟨some 7, .assign (.const (.bool true)), none⟩, .p) <| .n) (.c (⟨some 21, .load 32 (.tmp 4), none⟩, .e) <| .c (⟨some 19, .call { callee := .value (.func 57), args := #[.tmp 18], argTypes := #[3] }, none⟩, .f) <| .c (⟨some 22, .call { callee := .value (.tmp 19), args := #[.tmp 20, .tmp 21], argTypes := #[32, 32] }, none⟩, .f) <| .c (⟨none, .store 32 (.tmp 6) (.tmp 22), none⟩, .f) <| .c (⟨some 7, .assign (.const (.bool true)), none⟩, .p) <| .n)) (.c (⟨some 21, .load 32 (.tmp 4), none⟩, .e) <| .t (.c (⟨some 19, .call { callee := .value (.func 57), args := #[.tmp 18], argTypes := #[3] }, none⟩, .f) <| .c (⟨some 20, .load 32 (.tmp 3), none⟩, .e) <| .c (⟨some 22, .call { callee := .value (.tmp 19), args := #[.tmp 20, .tmp 21], argTypes := #[32, 32] }, none⟩, .f) <| .c (⟨none, .store 32 (.tmp 6) (.tmp 22), none⟩, .f) <| .c (⟨some 7, .assign (.const (.bool true)), none⟩, .p) <| .n) (.c (⟨some 20, .load 32 (.tmp 3), none⟩, .e) <| .c (⟨some 19, .call { callee := .value (.func 57), args := #[.tmp 18], argTypes := #[3] }, none⟩, .f) <| .c (⟨some 22, .call { callee := .value (.tmp 19), args := #[.tmp 20, .tmp 21], argTypes := #[32, 32] }, none⟩, .f) <| .c (⟨none, .store 32 (.tmp 6) (.tmp 22), none⟩, .f) <| .c (⟨some 7, .assign (.const (.bool true)), none⟩, .p) <| .n)))) Q a) : LI Try.prog h0 L (.raw (.region id rg23_1 true)) Q a :=
  LI_drawK (.c (0, .p) <| .t (.c (1, .f) <| .t (.c (2, .e) <| .c (3, .e) <| .c (4, .f) <| .c (5, .f) <| .c (6, .p) <| .n) (.c (3, .e) <| .c (2, .e) <| .c (4, .f) <| .c (5, .f) <| .c (6, .p) <| .n)) (.t (.c (2, .e) <| .t (.c (1, .f) <| .c (3, .e) <| .c (4, .f) <| .c (5, .f) <| .c (6, .p) <| .n) (.c (3, .e) <| .c (1, .f) <| .c (4, .f) <| .c (5, .f) <| .c (6, .p) <| .n)) (.c (3, .e) <| .t (.c (1, .f) <| .c (2, .e) <| .c (4, .f) <| .c (5, .f) <| .c (6, .p) <| .n) (.c (2, .e) <| .c (1, .f) <| .c (4, .f) <| .c (5, .f) <| .c (6, .p) <| .n)))) [1, 4, 5] K hK (by kernel_rfl) (by kernel_rfl) (by kernel_rfl) H
theorem dr23_1 (m : Nat) {Q : Exit → List AV → AH → Prop} {a : List AV} {h : AH} {id : Nat} (H : AX Try.prog m h [(⟨some 18, .move (.tmp 2), none⟩, true),
  (⟨some 20, .load 32 (.tmp 3), none⟩, true),
  (⟨some 21, .load 32 (.tmp 4), none⟩, true),
  (⟨some 19, .call { callee := .value (.func 57), args := #[.tmp 18], argTypes := #[3] }, none⟩, false),
  (⟨some 22, .call { callee := .value (.tmp 19), args := #[.tmp 20, .tmp 21], argTypes := #[32, 32] }, none⟩, false),
  (⟨none, .store 32 (.tmp 6) (.tmp 22), none⟩, false),
  (⟨some 7, .assign (.const (.bool true)), none⟩, true)] (fun a' h' => Q .normal a' h') a h) : AI Try.prog (.raw (.region id rg23_1 true)) Q a h :=
  AI_draw [(0, true), (2, true), (3, true), (1, false), (4, false), (5, false), (6, true)] m (by kernel_rfl) (by kernel_rfl) (by kernel_rfl) H

/-- laws.big -/
def c35 : IC :=
  (.seq
  (.reg [
    ⟨some 4, .assign (.const (.bool false)), none⟩])
  (.seq
  (.reg [
    ⟨some 5, .move (.tmp 0), none⟩,
    ⟨some 6, .call { callee := .builtin .len, args := #[.tmp 5], argTypes := #[49] }, none⟩,
    ⟨some 7, .binOp .gtr 3 (.tmp 6) (.const (.int .i64 1048576)) 3, none⟩,
    ⟨some 8, .move (.tmp 7), none⟩,
    ⟨some 9, .move (.tmp 1), some (8, false)⟩,
    ⟨some 10, .call { callee := .builtin .len, args := #[.tmp 9], argTypes := #[49] }, some (8, false)⟩,
    ⟨some 11, .move (.tmp 0), some (8, false)⟩,
    ⟨some 12, .call { callee := .builtin .len, args := #[.tmp 11], argTypes := #[49] }, some (8, false)⟩,
    ⟨some 13, .binOp .sub 3 (.const (.int .i64 1048576)) (.tmp 12) 3, some (8, false)⟩,
    ⟨some 14, .binOp .gtr 3 (.tmp 10) (.tmp 13) 3, some (8, false)⟩,
    ⟨some 15, .pick (.tmp 8) (.const (.bool true)) (.tmp 14), none⟩,
    ⟨some 4, .assign (.tmp 15), none⟩])
  .ret))
theorem hd35 : Try.f35.body.map dec = some c35 := by kernel_rfl
theorem e35 {R : AV → AH → Prop} {h : AH} (x0 x1 : AV) (H : h.wf → AI Try.prog c35 (RetQ Try.prog [.tmp 4] R) [x0, x1, un, un, un, un, un, un, un, un, un, un, un, un, un, un] h) : AC Try.prog 35 [x0, x1] h R :=
  AC_of' (rs := [.tmp 4]) Try.func35 (by kernel_rfl) hd35 Try.ntmps35 rfl H

noncomputable def rg90_0 : Array Oper := rawAt Try.f90 0
noncomputable def rg90_1 : Array Oper := rawAt Try.f90 1
noncomputable def rg90_2 : Array Oper := rawAt Try.f90 2
/-- (*spec.l1Cur).next -/
noncomputable def c90 : IC :=
  (.seq
  (.reg [
    ⟨some 2, .assign (.const (.int .i64 0)), none⟩])
  (.seq
  (.reg [
    ⟨some 3, .assign (.const (.int .i64 0)), none⟩])
  (.seq
  (.seq
  (.raw (.region 2 rg90_0 true))
  (.cond (.tmp 13)
    (.raw (.region 3 rg90_1 true))
    .skip))
  (.seq
  (.reg [
    ⟨some 25, .move (.tmp 0), none⟩,
    ⟨some 26, .nilCheck (.tmp 25), none⟩,
    ⟨some 27, .fieldAddr 84 (.tmp 26) 1, none⟩,
    ⟨some 28, .load 3 (.tmp 27), none⟩,
    ⟨some 29, .binOp .add 3 (.tmp 28) (.const (.int .i64 1)) 3, none⟩,
    ⟨some 30, .nilCheck (.tmp 25), none⟩,
    ⟨some 31, .fieldAddr 84 (.tmp 30) 1, none⟩,
    ⟨none, .store 3 (.tmp 31) (.tmp 29), none⟩])
  (.seq
  (.reg [
    ⟨some 32, .move (.tmp 0), none⟩,
    ⟨some 33, .move (.tmp 0), none⟩,
    ⟨some 34, .nilCheck (.tmp 33), none⟩,
    ⟨some 35, .fieldAddr 84 (.tmp 34) 2, none⟩,
    ⟨some 36, .load 82 (.tmp 35), none⟩,
    ⟨some 37, .binOp .mul 82 (.tmp 36) (.const (.int .u64 6364136223846793005)) 82, none⟩,
    ⟨some 38, .move (.tmp 3), none⟩,
    ⟨some 39, .convert 3 82 (.tmp 38), none⟩,
    ⟨some 40, .binOp .add 82 (.tmp 37) (.tmp 39) 82, none⟩,
    ⟨some 41, .binOp .add 82 (.tmp 40) (.const (.int .u64 1442695040888963407)) 82, none⟩,
    ⟨some 42, .nilCheck (.tmp 32), none⟩,
    ⟨some 43, .fieldAddr 84 (.tmp 42) 2, none⟩,
    ⟨none, .store 82 (.tmp 43) (.tmp 41), none⟩])
  (.seq
  (.seq
  (.raw (.region 6 rg90_2 true))
  (.cond (.tmp 53)
    (.seq
    (.reg [
      ⟨some 54, .move (.tmp 3), none⟩,
      ⟨some 2, .assign (.tmp 54), none⟩])
    .ret)
    .skip))
  (.seq
  (.reg [
    ⟨some 55, .move (.tmp 0), none⟩,
    ⟨some 56, .nilCheck (.tmp 55), none⟩,
    ⟨some 57, .fieldAddr 84 (.tmp 56) 2, none⟩,
    ⟨some 58, .load 82 (.tmp 57), none⟩,
    ⟨some 59, .binOp .shr 82 (.tmp 58) (.const (.int .u64 40)) 77, none⟩,
    ⟨some 60, .binOp .and 82 (.tmp 59) (.const (.int .u64 255)) 82, none⟩,
    ⟨some 61, .convert 82 3 (.tmp 60), none⟩,
    ⟨some 2, .assign (.tmp 61), none⟩])
  .ret)))))))
theorem hd90 : Try.f90.body.map dec = some c90 := by kernel_rfl
theorem e90 {R : AV → AH → Prop} {h : AH} (x0 : AV) (H : h.wf → AI Try.prog c90 (RetQ Try.prog [.tmp 2] R) [x0, un, un, un, un, un, un, un, un, un, un, un, un, un, un, un, un, un, un, un, un, un, un, un, un, un, un, un, un, un, un, un, un, un, un, un, un, un, un, un, un, un, un, un, un, un, un, un, un, un, un, un, un, un, un, un, un, un, un, un, un, un] h) : AC Try.prog 90 [x0] h R :=
  AC_of' (rs := [.tmp 2]) Try.func90 (by kernel_rfl) hd90 Try.ntmps90 rfl H
theorem dz90_0 {h0 : AH} {L : List It} {Q : Exit → List AV → List It → Prop} {a : List AV} {id : Nat} (H : LX Try.prog ⟨[], []⟩ h0 L L (.c (⟨some 4, .move (.tmp 0), none⟩, .p) <| .c (⟨some 5, .nilCheck (.tmp 4), none⟩, .p) <| .c (⟨some 6, .fieldAddr 84 (.tmp 5) 1, none⟩, .p) <| .c (⟨some 7, .load 3 (.tmp 6), none⟩, .l) <| .c (⟨some 8, .move (.tmp 0), none⟩, .p) <| .c (⟨some 9, .nilCheck (.tmp 8), none⟩, .p) <| .c (⟨some 10, .fieldAddr 84 (.tmp 9) 0, none⟩, .p) <| .c (⟨some 11, .load 49 (.tmp 10), none⟩, .l) <| .c (⟨some 12, .call { callee := .builtin .len, args := #[.tmp 11], argTypes := #[49] }, none⟩, .p) <| .c (⟨some 13, .binOp .lss 3 (.tmp 7) (.tmp 12) 3, none⟩, .p) <| .n) Q a) : LI Try.prog h0 L (.raw (.region id rg90_0 true)) Q a :=
  LI_draw (.c (0, .p) <| .c (1, .p) <| .c (2, .p) <| .c (3, .l) <| .c (4, .p) <| .c (5, .p) <| .c (6, .p) <| .c (7, .l) <| .c (8, .p) <| .c (9, .p) <| .n) [] (by kernel_rfl) (by kernel_rfl) (by kernel_rfl) H
theorem dr90_0 (m : Nat) {Q : Exit → List AV → AH → Prop} {a : List AV} {h : AH} {id : Nat} (H : AX Try.prog m h [(⟨some 4, .move (.tmp 0), none⟩, true),
  (⟨some 5, .nilCheck (.tmp 4), none⟩, true),
  (⟨some 6, .fieldAddr 84 (.tmp 5) 1, none⟩, true),
  (⟨some 7, .load 3 (.tmp 6), none⟩, true),
  (⟨some 8, .move (.tmp 0), none⟩, true),
  (⟨some 9, .nilCheck (.tmp 8), none⟩, true),
  (⟨some 10, .fieldAddr 84 (.tmp 9) 0, none⟩, true),
  (⟨some 11, .load 49 (.tmp 10), none⟩, true),
  (⟨some 12, .call { callee := .builtin .len, args := #[.tmp 11], argTypes := #[49] }, none⟩, true),
  (⟨some 13, .binOp .lss 3 (.tmp 7) (.tmp 12) 3, none⟩, true)] (fun a' h' => Q .normal a' h') a h) : AI Try.prog (.raw (.region id rg90_0 true)) Q a h :=
  AI_draw [(0, true), (1, true), (2, true), (3, true), (4, true), (5, true), (6, true), (7, true), (8, true), (9, true)] m (by kernel_rfl) (by kernel_rfl) (by kernel_rfl) H
theorem dz90_1 {h0 : AH} {L : List It} {Q : Exit → List AV → List It → Prop} {a : List AV} {id : Nat} (H : LX Try.prog ⟨[], []⟩ h0 L L (.c (⟨some 14, .move (.tmp 0), none⟩, .p) <| .c (⟨some 15, .nilCheck (.tmp 14), none⟩, .p) <| .c (⟨some 16, .fieldAddr 84 (.tmp 15) 0, none⟩, .p) <| .c (⟨some 17, .load 49 (.tmp 16), none⟩, .l) <| .c (⟨some 18, .move (.tmp 0), none⟩, .p) <| .c (⟨some 19, .nilCheck (.tmp 18), none⟩, .p) <| .c (⟨some 20, .fieldAddr 84 (.tmp 19) 1, none⟩, .p) <| .c (⟨some 21, .load 3 (.tmp 20), none⟩, .l) <| .c (⟨some 22, .indexAddr 49 (.tmp 17) (.tmp 21), none⟩, .p) <| .c (⟨some 23, .load 5 (.tmp 22), none⟩, .l) <| .c (⟨some 24, .convert 5 3 (.tmp 23), none⟩, .p) <| .c (⟨some 3, .assign (.tmp 24), none⟩, .p) <| .n) Q a) : LI Try.prog h0 L (.raw (.region id rg90_1 true)) Q a :=
  LI_draw (.c (0, .p) <| .c (1, .p) <| .c (2, .p) <| .c (3, .l) <| .c (4, .p) <| .c (5, .p) <| .c (6, .p) <| .c (7, .l) <| .c (8, .p) <| .c (9, .l) <| .c (10, .p) <| .c (11, .p) <| .n) [] (by kernel_rfl) (by kernel_rfl) (by kernel_rfl) H
theorem dr90_1 (m : Nat) {Q : Exit → List AV → AH → Prop} {a : List AV} {h : AH} {id : Nat} (H : AX Try.prog m h [(⟨some 14, .move (.tmp 0), none⟩, true),
  (⟨some 15, .nilCheck (.tmp 14), none⟩, true),
  (⟨some 16, .fieldAddr 84 (.tmp 15) 0, none⟩, true),
  (⟨some 17, .load 49 (.tmp 16), none⟩, true),
  (⟨some 18, .move (.tmp 0), none⟩, true),
  (⟨some 19, .nilCheck (.tmp 18), none⟩, true),
  (⟨some 20, .fieldAddr 84 (.tmp 19) 1, none⟩, true),
  (⟨some 21, .load 3 (.tmp 20), none⟩, true),
  (⟨some 22, .indexAddr 49 (.tmp 17) (.tmp 21), none⟩, true),
  (⟨some 23, .load 5 (.tmp 22), none⟩, true),
  (⟨some 24, .convert 5 3 (.tmp 23), none⟩, true),
  (⟨some 3, .assign (.tmp 24), none⟩, true)] (fun a' h' => Q .normal a' h') a h) : AI Try.prog (.raw (.region id rg90_1 true)) Q a h :=
  AI_draw [(0, true), (1, true), (2, true), (3, true), (4, true), (5, true), (6, true), (7, true), (8, true), (9, true), (10, true), (11, true)] m (by kernel_rfl) (by kernel_rfl) (by kernel_rfl) H
theorem dz90_2 {h0 : AH} {L : List It} {Q : Exit → List AV → List It → Prop} {a : List AV} {id : Nat} (H : LX Try.prog ⟨[], []⟩ h0 L L (.c (⟨some 44, .move (.tmp 0), none⟩, .p) <| .c (⟨some 45, .nilCheck (.tmp 44), none⟩, .p) <| .c (⟨some 46, .fieldAddr 84 (.tmp 45) 1, none⟩, .p) <| .c (⟨some 47, .load 3 (.tmp 46), none⟩, .l) <| .c (⟨some 48, .move (.tmp 0), none⟩, .p) <| .c (⟨some 49, .nilCheck (.tmp 48), none⟩, .p) <| .c (⟨some 50, .fieldAddr 84 (.tmp 49) 0, none⟩, .p) <| .c (⟨some 51, .load 49 (.tmp 50), none⟩, .l) <| .c (⟨some 52, .call { callee := .builtin .len, args := #[.tmp 51], argTypes := #[49] }, none⟩, .p) <| .c (⟨some 53, .binOp .leq 3 (.tmp 47) (.tmp 52) 3, none⟩, .p) <| .n) Q a) : LI Try.prog h0 L (.raw (.region id rg90_2 true)) Q a :=
  LI_draw (.c (0, .p) <| .c (1, .p) <| .c (2, .p) <| .c (3, .l) <| .c (4, .p) <| .c (5, .p) <| .c (6, .p) <| .c (7, .l) <| .c (8, .p) <| .c (9, .p) <| .n) [] (by kernel_rfl) (by kernel_rfl) (by kernel_rfl) H
theorem dr90_2 (m : Nat) {Q : Exit → List AV → AH → Prop} {a : List AV} {h : AH} {id : Nat} (H : AX Try.prog m h [(⟨some 44, .move (.tmp 0), none⟩, true),
  (⟨some 45, .nilCheck (.tmp 44), none⟩, true),
  (⟨some 46, .fieldAddr 84 (.tmp 45) 1, none⟩, true),
  (⟨some 47, .load 3 (.tmp 46), none⟩, true),
  (⟨some 48, .move (.tmp 0), none⟩, true),
  (⟨some 49, .nilCheck (.tmp 48), none⟩, true),
  (⟨some 50, .fieldAddr 84 (.tmp 49) 0, none⟩, true),
  (⟨some 51, .load 49 (.tmp 50), none⟩, true),
  (⟨some 52, .call { callee := .builtin .len, args := #[.tmp 51], argTypes := #[49] }, none⟩, true),
  (⟨some 53, .binOp .leq 3 (.tmp 47) (.tmp 52) 3, none⟩, true)] (fun a' h' => Q .normal a' h') a h) : AI Try.prog (.raw (.region id rg90_2 true)) Q a h :=
  AI_draw [(0, true), (1, true), (2, true), (3, true), (4, true), (5, true), (6, true), (7, true), (8, true), (9, true)] m (by kernel_rfl) (by kernel_rfl) (by kernel_rfl) H

/-- (*spec.l1Cur).pick -/
def c86 : IC :=
  (.seq
  (.reg [
    ⟨some 4, .assign (.const (.int .i64 0)), none⟩])
  (.seq
  (.seq
  (.reg [
    ⟨some 6, .move (.tmp 1), none⟩,
    ⟨some 7, .binOp .leq 3 (.tmp 6) (.const (.int .i64 1)) 3, none⟩])
  (.cond (.tmp 7)
    (.seq
    (.reg [
      ⟨some 4, .assign (.const (.int .i64 0)), none⟩])
    .ret)
    .skip))
  (.seq
  (.reg [
    ⟨some 8, .move (.tmp 0), none⟩,
    ⟨some 9, .call { callee := .value (.func 90), args := #[.tmp 8], argTypes := #[81] }, none⟩,
    ⟨some 5, .assign (.tmp 9), none⟩])
  (.seq
  (.seq
  (.reg [
    ⟨some 10, .move (.tmp 1), none⟩,
    ⟨some 11, .binOp .gtr 3 (.tmp 10) (.const (.int .i64 200)) 3, none⟩])
  (.cond (.tmp 11)
    (.reg [
      ⟨some 12, .move (.tmp 5), none⟩,
      ⟨some 13, .binOp .mul 3 (.tmp 12) (.const (.int .i64 256)) 3, none⟩,
      ⟨some 14, .move (.tmp 0), none⟩,
      ⟨some 15, .call { callee := .value (.func 90), args := #[.tmp 14], argTypes := #[81] }, none⟩,
      ⟨some 16, .binOp .add 3 (.tmp 13) (.tmp 15) 3, none⟩,
      ⟨some 5, .assign (.tmp 16), none⟩])
    .skip))
  (.seq
  (.reg [
    ⟨some 17, .move (.tmp 5), none⟩,
    ⟨some 18, .move (.tmp 1), none⟩,
    ⟨some 19, .binOp .rem 3 (.tmp 17) (.tmp 18) 3, none⟩,
    ⟨some 4, .assign (.tmp 19), none⟩])
  .ret)))))
theorem hd86 : Try.f86.body.map dec = some c86 := by kernel_rfl
theorem e86 {R : AV → AH → Prop} {h : AH} (x0 x1 : AV) (H : h.wf → AI Try.prog c86 (RetQ Try.prog [.tmp 4] R) [x0, x1, un, un, un, un, un, un, un, un, un, un, un, un, un, un, un, un, un, un] h) : AC Try.prog 86 [x0, x1] h R :=
  AC_of' (rs := [.tmp 4]) Try.func86 (by kernel_rfl) hd86 Try.ntmps86 rfl H

/-- (*spec.l1Cur).among -/
def c70 : IC :=
  (.seq
  (.reg [
    ⟨some 4, .assign (.const (.int .i64 0)), none⟩])
  (.seq
  (.reg [
    ⟨some 5, .move (.tmp 1), none⟩,
    ⟨some 6, .move (.tmp 0), none⟩,
    ⟨some 7, .move (.tmp 1), none⟩,
    ⟨some 8, .call { callee := .builtin .len, args := #[.tmp 7], argTypes := #[25] }, none⟩,
    ⟨some 9, .call { callee := .value (.func 86), args := #[.tmp 6, .tmp 8], argTypes := #[81, 3] }, none⟩,
    ⟨some 10, .indexAddr 25 (.tmp 5) (.tmp 9), none⟩,
    ⟨some 11, .load 3 (.tmp 10), none⟩,
    ⟨some 4, .assign (.tmp 11), none⟩])
  .ret))
theorem hd70 : Try.f70.body.map dec = some c70 := by kernel_rfl
theorem e70 {R : AV → AH → Prop} {h : AH} (x0 x1 : AV) (H : h.wf → AI Try.prog c70 (RetQ Try.prog [.tmp 4] R) [x0, x1, un, un, un, un, un, un, un, un, un, un] h) : AC Try.prog 70 [x0, x1] h R :=
  AC_of' (rs := [.tmp 4]) Try.func70 (by kernel_rfl) hd70 Try.ntmps70 rfl H

/-- (*spec.l1Cur).one -/
def c87 : IC :=
  (.seq
  (.reg [
    ⟨some 4, .assign (.const (.bool false)), none⟩])
  (.seq
  (.reg [
    ⟨some 5, .move (.tmp 0), none⟩,
    ⟨some 6, .move (.tmp 1), none⟩,
    ⟨some 7, .call { callee := .value (.func 86), args := #[.tmp 5, .tmp 6], argTypes := #[81, 3] }, none⟩,
    ⟨some 8, .binOp .eql 3 (.tmp 7) (.const (.int .i64 0)) 3, none⟩,
    ⟨some 4, .assign (.tmp 8), none⟩])
  .ret))
theorem hd87 : Try.f87.body.map dec = some c87 := by kernel_rfl
theorem e87 {R : AV → AH → Prop} {h : AH} (x0 x1 : AV) (H : h.wf → AI Try.prog c87 (RetQ Try.prog [.tmp 4] R) [x0, x1, un, un, un, un, un, un, un] h) : AC Try.prog 87 [x0, x1] h R :=
  AC_of' (rs := [.tmp 4]) Try.func87 (by kernel_rfl) hd87 Try.ntmps87 rfl H

/-- (*spec.l1Cur).modulus6 -/
def c71 : IC :=
  (.seq
  (.reg [
    ⟨some 2, .assign (.const (.int .i64 0)), none⟩])
  (.seq
  (.seq
  (.reg [
    ⟨some 3, .move (.tmp 0), none⟩,
    ⟨some 4, .call { callee := .value (.func 87), args := #[.tmp 3, .const (.int .i64 12)], argTypes := #[81, 3] }, none⟩])
  (.cond (.tmp 4)
    (.seq
    (.reg [
      ⟨some 5, .move (.tmp 0), none⟩,
      ⟨some 6, .buildSlice 25 6 #[(0, .const (.int .i64 (-1))), (1, .const (.int .i64 0)), (2, .const (.int .i64 1)), (3, .const (.int .i64 2)), (4, .const (.int .i64 10000)), (5, .const (.int .i64 10001))], none⟩,
      ⟨some 7, .call { callee := .value (.func 70), args := #[.tmp 5, .tmp 6], argTypes := #[81, 25] }, none⟩,
      ⟨some 2, .assign (.tmp 7), none⟩])
    .ret)
    .skip))
  (.seq
  (.reg [
    ⟨some 8, .move (.tmp 0), none⟩,
    ⟨some 9, .move (.tmp 0), none⟩,
    ⟨some 10, .buildSlice 25 3 #[(0, .const (.int .i64 6)), (1, .const (.int .i64 30)), (2, .const (.int .i64 1000))], none⟩,
    ⟨some 11, .call { callee := .value (.func 70), args := #[.tmp 9, .tmp 10], argTypes := #[81, 25] }, none⟩,
    ⟨some 12, .call { callee := .value (.func 86), args := #[.tmp 8, .tmp 11], argTypes := #[81, 3] }, none⟩,
    ⟨some 13, .binOp .add 3 (.const (.int .i64 2)) (.tmp 12) 3, none⟩,
    ⟨some 2, .assign (.tmp 13), none⟩])
  .ret)))
theorem hd71 : Try.f71.body.map dec = some c71 := by kernel_rfl
theorem e71 {R : AV → AH → Prop} {h : AH} (x0 : AV) (H : h.wf → AI Try.prog c71 (RetQ Try.prog [.tmp 2] R) [x0, un, un, un, un, un, un, un, un, un, un, un, un, un] h) : AC Try.prog 71 [x0] h R :=
  AC_of' (rs := [.tmp 2]) Try.func71 (by kernel_rfl) hd71 Try.ntmps71 rfl H

/-- spec.l1Most -/
def c88 : IC :=
  (.seq
  (.reg [
    ⟨some 4, .assign (.const (.int .i64 0)), none⟩])
  (.seq
  (.seq
  (.reg [
    ⟨some 5, .move (.tmp 0), none⟩,
    ⟨some 6, .move (.tmp 1), none⟩,
    ⟨some 7, .binOp .gtr 3 (.tmp 5) (.tmp 6) 3, none⟩])
  (.cond (.tmp 7)
    (.seq
    (.reg [
      ⟨some 8, .move (.tmp 0), none⟩,
      ⟨some 4, .assign (.tmp 8), none⟩])
    .ret)
    .skip))
  (.seq
  (.reg [
    ⟨some 9, .move (.tmp 1), none⟩,
    ⟨some 4, .assign (.tmp 9), none⟩])
  .ret)))
theorem hd88 : Try.f88.body.map dec = some c88 := by kernel_rfl
theorem e88 {R : AV → AH → Prop} {h : AH} (x0 x1 : AV) (H : h.wf → AI Try.prog c88 (RetQ Try.prog [.tmp 4] R) [x0, x1, un, un, un, un, un, un, un, un] h) : AC Try.prog 88 [x0, x1] h R :=
  AC_of' (rs := [.tmp 4]) Try.func88 (by kernel_rfl) hd88 Try.ntmps88 rfl H

/-- spec.l1Least -/
def c89 : IC :=
  (.seq
  (.reg [
    ⟨some 4, .assign (.const (.int .i64 0)), none⟩])
  (.seq
  (.seq
  (.reg [
    ⟨some 5, .move (.tmp 0), none⟩,
    ⟨some 6, .move (.tmp 1), none⟩,
    ⟨some 7, .binOp .lss 3 (.tmp 5) (.tmp 6) 3, none⟩])
  (.cond (.tmp 7)
    (.seq
    (.reg [
      ⟨some 8, .move (.tmp 0), none⟩,
      ⟨some 4, .assign (.tmp 8), none⟩])
    .ret)
    .skip))
  (.seq
  (.reg [
    ⟨some 9, .move (.tmp 1), none⟩,
    ⟨some 4, .assign (.tmp 9), none⟩])
  .ret)))
theorem hd89 : Try.f89.body.map dec = some c89 := by kernel_rfl
theorem e89 {R : AV → AH → Prop} {h : AH} (x0 x1 : AV) (H : h.wf → AI Try.prog c89 (RetQ Try.prog [.tmp 4] R) [x0, x1, un, un, un, un, un, un, un, un] h) : AC Try.prog 89 [x0, x1] h R :=
  AC_of' (rs := [.tmp 4]) Try.func89 (by kernel_rfl) hd89 Try.ntmps89 rfl H

/-- (*spec.l1Cur).residue -/
def c74 : IC :=
  (.seq
  (.reg [
    ⟨some 4, .assign (.const (.int .i64 0)), none⟩])
  (.seq
  (.seq
  (.reg [
    ⟨some 5, .move (.tmp 0), none⟩,
    ⟨some 6, .call { callee := .value (.func 87), args := #[.tmp 5, .const (.int .i64 40)], argTypes := #[81, 3] }, none⟩])
  (.cond (.tmp 6)
    (.seq
    (.reg [
      ⟨some 7, .move (.tmp 0), none⟩,
      ⟨some 8, .move (.tmp 1), none⟩,
      ⟨some 9, .buildSlice 25 3 #[(0, .const (.int .i64 (-1))), (1, .tmp 8), (2, .const (.int .i64 4611686018427387904))], none⟩,
      ⟨some 10, .call { callee := .value (.func 70), args := #[.tmp 7, .tmp 9], argTypes := #[81, 25] }, none⟩,
      ⟨some 4, .assign (.tmp 10), none⟩])
    .ret)
    .skip))
  (.seq
  (.reg [
    ⟨some 11, .move (.tmp 0), none⟩,
    ⟨some 12, .move (.tmp 1), none⟩,
    ⟨some 13, .call { callee := .value (.func 89), args := #[.tmp 12, .const (.int .i64 20000)], argTypes := #[3, 3] }, none⟩,
    ⟨some 14, .call { callee := .value (.func 88), args := #[.const (.int .i64 1), .tmp 13], argTypes := #[3, 3] }, none⟩,
    ⟨some 15, .call { callee := .value (.func 86), args := #[.tmp 11, .tmp 14], argTypes := #[81, 3] }, none⟩,
    ⟨some 4, .assign (.tmp 15), none⟩])
  .ret)))
theorem hd74 : Try.f74.body.map dec = some c74 := by kernel_rfl
theorem e74 {R : AV → AH → Prop} {h : AH} (x0 x1 : AV) (H : h.wf → AI Try.prog c74 (RetQ Try.prog [.tmp 4] R) [x0, x1, un, un, un, un, un, un, un, un, un, un, un, un, un, un] h) : AC Try.prog 74 [x0, x1] h R :=
  AC_of' (rs := [.tmp 4]) Try.func74 (by kernel_rfl) hd74 Try.ntmps74 rfl H

/-- (*spec.l1Cur).matrix -/
def c75 : IC :=
  (.seq
  (.reg [
    ⟨some 4, .alloc 32, none⟩])
  (.seq
  (.reg [
    ⟨some 5, .move (.tmp 0), none⟩,
    ⟨some 6, .move (.tmp 1), none⟩,
    ⟨some 7, .call { callee := .value (.func 74), args := #[.tmp 5, .tmp 6], argTypes := #[81, 3] }, none⟩,
    ⟨some 8, .move (.tmp 0), none⟩,
    ⟨some 9, .move (.tmp 1), none⟩,
    ⟨some 10, .call { callee := .value (.func 74), args := #[.tmp 8, .tmp 9], argTypes := #[81, 3] }, none⟩,
    ⟨some 11, .move (.tmp 0), none⟩,
    ⟨some 12, .move (.tmp 1), none⟩,
    ⟨some 13, .call { callee := .value (.func 74), args := #[.tmp 11, .tmp 12], argTypes := #[81, 3] }, none⟩,
    ⟨some 14, .move (.tmp 0), none⟩,
    ⟨some 15, .move (.tmp 1), none⟩,
    ⟨some 16, .call { callee := .value (.func 74), args := #[.tmp 14, .tmp 15], argTypes := #[81, 3] }, none⟩,
    ⟨some 17, .build 32 #[(0, .tmp 7), (1, .tmp 10), (2, .tmp 13), (3, .tmp 16)], none⟩,
    ⟨none, .store 32 (.tmp 4) (.tmp 17), none⟩])
  .ret))
theorem hd75 : Try.f75.body.map dec = some c75 := by kernel_rfl
theorem e75 {R : AV → AH → Prop} {h : AH} (x0 x1 : AV) (H : h.wf → AI Try.prog c75 (RetQ Try.prog [.cell 4 32] R) [x0, x1, un, un, un, un, un, un, un, un, un, un, un, un, un, un, un, un] h) : AC Try.prog 75 [x0, x1] h R :=
  AC_of' (rs := [.cell 4 32]) Try.func75 (by kernel_rfl) hd75 Try.ntmps75 rfl H

/-- spec.DrawMatrixProduct -/
def c38 : IC :=
  (.seq
  (.reg [
    ⟨some 2, .alloc 32, none⟩,
    ⟨some 3, .alloc 32, none⟩,
    ⟨some 4, .assign (.const (.int .i64 0)), none⟩])
  (.seq
  (.reg [
    ⟨some 7, .move (.tmp 0), none⟩,
    ⟨some 8, .build 84 #[(0, .tmp 7)], none⟩,
    ⟨some 9, .box 84 (.tmp 8), none⟩,
    ⟨some 5, .assign (.tmp 9), none⟩])
  (.seq
  (.reg [
    ⟨some 10, .move (.tmp 5), none⟩,
    ⟨some 11, .call { callee := .value (.func 71), args := #[.tmp 10], argTypes := #[81] }, none⟩,
    ⟨some 6, .assign (.tmp 11), none⟩])
  (.seq
  (.reg [
    ⟨some 12, .move (.tmp 5), none⟩,
    ⟨some 13, .move (.tmp 6), none⟩,
    ⟨some 14, .call { callee := .value (.func 75), args := #[.tmp 12, .tmp 13], argTypes := #[81, 3] }, none⟩,
    ⟨some 15, .move (.tmp 5), none⟩,
    ⟨some 16, .move (.tmp 6), none⟩,
    ⟨some 17, .call { callee := .value (.func 75), args := #[.tmp 15, .tmp 16], argTypes := #[81, 3] }, none⟩,
    ⟨some 18, .move (.tmp 6), none⟩,
    ⟨none, .store 32 (.tmp 2) (.tmp 14), none⟩,
    ⟨none, .store 32 (.tmp 3) (.tmp 17), none⟩,
    ⟨some 4, .assign (.tmp 18), none⟩])
  .ret))))
theorem hd38 : Try.f38.body.map dec = some c38 := by kernel_rfl
theorem e38 {R : AV → AH → Prop} {h : AH} (x0 : AV) (H : h.wf → AI Try.prog c38 (RetQ Try.prog [.cell 2 32, .cell 3 32, .tmp 4] R) [x0, un, un, un, un, un, un, un, un, un, un, un, un, un, un, un, un, un, un] h) : AC Try.prog 38 [x0] h R :=
  AC_of' (rs := [.cell 2 32, .cell 3 32, .tmp 4]) Try.func38 (by kernel_rfl) hd38 Try.ntmps38 rfl H

/-- laws.numberOf -/
def c39 : IC :=
  (.seq
  (.reg [
    ⟨some 2, .assign (.const (.int .i64 0)), none⟩])
  (.seq
  (.reg [
    ⟨some 3, .assign (.const (.int .i64 0)), none⟩])
  (.seq
  (.seq
  (.reg [
    ⟨some 6, .move (.tmp 0), none⟩,
    ⟨some 7, .call { callee := .builtin .len, args := #[.tmp 6], argTypes := #[49] }, none⟩,
    ⟨some 8, .move (.const (.int .i64 0)), none⟩])
  (.block 0
  (.loop
    (.seq
    (.reg [
      ⟨some 9, .binOp .lss 3 (.tmp 8) (.tmp 7) 3, none⟩])
    (.seq
    (.cond (.tmp 9)
      .skip
      (.exit 0))
    (.seq
    (.block 1
    (.seq
    (.reg [
      ⟨some 10, .indexAddr 49 (.tmp 6) (.tmp 8), none⟩,
      ⟨some 11, .load 5 (.tmp 10), none⟩,
      ⟨some 5, .assign (.tmp 11), none⟩])
    (.reg [
      ⟨some 12, .move (.tmp 3), none⟩,
      ⟨some 13, .binOp .mul 3 (.const (.int .i64 31)) (.tmp 12) 3, none⟩,
      ⟨some 14, .move (.tmp 5), none⟩,
      ⟨some 15, .convert 5 3 (.tmp 14), none⟩,
      ⟨some 16, .binOp .add 3 (.tmp 13) (.tmp 15) 3, none⟩,
      ⟨some 17, .binOp .rem 3 (.tmp 16) (.const (.int .i64 1000003)) 3, none⟩,
      ⟨some 3, .assign (.tmp 17), none⟩])))
    (.reg [
      ⟨some 18, .binOp .add 3 (.tmp 8) (.const (.int .i64 1)) 3, none⟩,
      ⟨some 8, .move (.tmp 18), none⟩])))))))
  (.seq
  (.reg [
    ⟨some 19, .move (.tmp 3), none⟩,
    ⟨some 2, .assign (.tmp 19), none⟩])
  .ret))))
theorem hd39 : Try.f39.body.map dec = some c39 := by kernel_rfl
theorem e39 {R : AV → AH → Prop} {h : AH} (x0 : AV) (H : h.wf → AI Try.prog c39 (RetQ Try.prog [.tmp 2] R) [x0, un, un, un, un, un, un, un, un, un, un, un, un, un, un, un, un, un, un, un] h) : AC Try.prog 39 [x0] h R :=
  AC_of' (rs := [.tmp 2]) Try.func39 (by kernel_rfl) hd39 Try.ntmps39 rfl H

/-- (*spec.l1Cur).exponent -/
def c72 : IC :=
  (.seq
  (.reg [
    ⟨some 2, .assign (.const (.int .i64 0)), none⟩])
  (.seq
  (.seq
  (.reg [
    ⟨some 3, .move (.tmp 0), none⟩,
    ⟨some 4, .call { callee := .value (.func 87), args := #[.tmp 3, .const (.int .i64 12)], argTypes := #[81, 3] }, none⟩])
  (.cond (.tmp 4)
    (.seq
    (.reg [
      ⟨some 5, .move (.tmp 0), none⟩,
      ⟨some 6, .buildSlice 25 4 #[(0, .const (.int .i64 (-1))), (1, .const (.int .i64 0)), (2, .const (.int .i64 1000000)), (3, .const (.int .i64 1000001))], none⟩,
      ⟨some 7, .call { callee := .value (.func 70), args := #[.tmp 5, .tmp 6], argTypes := #[81, 25] }, none⟩,
      ⟨some 2, .assign (.tmp 7), none⟩])
    .ret)
    .skip))
  (.seq
  (.reg [
    ⟨some 8, .move (.tmp 0), none⟩,
    ⟨some 9, .move (.tmp 0), none⟩,
    ⟨some 10, .buildSlice 25 3 #[(0, .const (.int .i64 5)), (1, .const (.int .i64 40)), (2, .const (.int .i64 5000))], none⟩,
    ⟨some 11, .call { callee := .value (.func 70), args := #[.tmp 9, .tmp 10], argTypes := #[81, 25] }, none⟩,
    ⟨some 12, .call { callee := .value (.func 86), args := #[.tmp 8, .tmp 11], argTypes := #[81, 3] }, none⟩,
    ⟨some 2, .assign (.tmp 12), none⟩])
  .ret)))
theorem hd72 : Try.f72.body.map dec = some c72 := by kernel_rfl
theorem e72 {R : AV → AH → Prop} {h : AH} (x0 : AV) (H : h.wf → AI Try.prog c72 (RetQ Try.prog [.tmp 2] R) [x0, un, un, un, un, un, un, un, un, un, un, un, un] h) : AC Try.prog 72 [x0] h R :=
  AC_of' (rs := [.tmp 2]) Try.func72 (by kernel_rfl) hd72 Try.ntmps72 rfl H

/-- spec.DrawMatrixPower -/
def c40 : IC :=
  (.seq
  (.reg [
    ⟨some 2, .alloc 32, none⟩,
    ⟨some 3, .assign (.const (.int .i64 0)), none⟩,
    ⟨some 4, .assign (.const (.int .i64 0)), none⟩])
  (.seq
  (.reg [
    ⟨some 7, .move (.tmp 0), none⟩,
    ⟨some 8, .build 84 #[(0, .tmp 7)], none⟩,
    ⟨some 9, .box 84 (.tmp 8), none⟩,
    ⟨some 5, .assign (.tmp 9), none⟩])
  (.seq
  (.reg [
    ⟨some 10, .move (.tmp 5), none⟩,
    ⟨some 11, .call { callee := .value (.func 71), args := #[.tmp 10], argTypes := #[81] }, none⟩,
    ⟨some 6, .assign (.tmp 11), none⟩])
  (.seq
  (.reg [
    ⟨some 12, .move (.tmp 5), none⟩,
    ⟨some 13, .move (.tmp 6), none⟩,
    ⟨some 14, .call { callee := .value (.func 75), args := #[.tmp 12, .tmp 13], argTypes := #[81, 3] }, none⟩,
    ⟨some 15, .move (.tmp 5), none⟩,
    ⟨some 16, .call { callee := .value (.func 72), args := #[.tmp 15], argTypes := #[81] }, none⟩,
    ⟨some 17, .move (.tmp 6), none⟩,
    ⟨none, .store 32 (.tmp 2) (.tmp 14), none⟩,
    ⟨some 3, .assign (.tmp 16), none⟩,
    ⟨some 4, .assign (.tmp 17), none⟩])
  .ret))))
theorem hd40 : Try.f40.body.map dec = some c40 := by kernel_rfl
theorem e40 {R : AV → AH → Prop} {h : AH} (x0 : AV) (H : h.wf → AI Try.prog c40 (RetQ Try.prog [.cell 2 32, .tmp 3, .tmp 4] R) [x0, un, un, un, un, un, un, un, un, un, un, un, un, un, un, un, un, un] h) : AC Try.prog 40 [x0] h R :=
  AC_of' (rs := [.cell 2 32, .tmp 3, .tmp 4]) Try.func40 (by kernel_rfl) hd40 Try.ntmps40 rfl H

noncomputable def rg11_0 : Array Oper := rawAt Try.f11 0
-- NO ORDER
/-- laws.FnMatrices -/
noncomputable def c11 : IC :=
  (.seq
  (.reg [
    ⟨some 4, .assign (.const (.bool false)), none⟩])
  (.seq
  (.seq
  (.reg [
    ⟨some 30, .move (.tmp 0), none⟩,
    ⟨some 31, .move (.tmp 1), none⟩,
    ⟨some 32, .call { callee := .value (.func 35), args := #[.tmp 30, .tmp 31], argTypes := #[49, 49] }, none⟩])
  (.cond (.tmp 32)
    (.seq
    (.reg [
      ⟨some 4, .assign (.const (.bool true)), none⟩])
    .ret)
    .skip))
  (.seq
  (.reg [
    ⟨some 34, .move (.tmp 0), none⟩,
    ⟨some 35, .call { callee := .value (.func 38), args := #[.tmp 34], argTypes := #[49] }, none⟩,
    ⟨some 33, .move (.tmp 35), none⟩,
    ⟨some 36, .extract (.tmp 33) 0, none⟩,
    ⟨some 37, .extract (.tmp 33) 1, none⟩,
    ⟨some 38, .extract (.tmp 33) 2, none⟩,
    ⟨some 5, .alloc 32, none⟩,
    ⟨some 6, .alloc 32, none⟩,
    ⟨none, .store 32 (.tmp 5) (.tmp 36), none⟩,
    ⟨none, .store 32 (.tmp 6) (.tmp 37), none⟩,
    ⟨some 7, .assign (.tmp 38), none⟩])
  (.seq
  (.reg [
    ⟨some 40, .load 32 (.tmp 5), none⟩,
    ⟨some 41, .load 32 (.tmp 6), none⟩,
    ⟨some 42, .move (.tmp 7), none⟩,
    ⟨some 43, .call { callee := .value (.func 23), args := #[.tmp 40, .tmp 41, .tmp 42], argTypes := #[32, 32, 3] }, none⟩,
    ⟨some 39, .move (.tmp 43), none⟩,
    ⟨some 44, .extract (.tmp 39) 0, none⟩,
    ⟨some 45, .extract (.tmp 39) 1, none⟩,
    ⟨some 8, .alloc 32, none⟩,
    ⟨none, .store 32 (.tmp 8) (.tmp 44), none⟩,
    ⟨some 9, .assign (.tmp 45), none⟩])
  (.seq
  (.reg [
    ⟨some 47, .load 32 (.tmp 5), none⟩,
    ⟨some 48, .load 32 (.tmp 6), none⟩,
    ⟨some 49, .move (.tmp 7), none⟩,
    ⟨some 50, .call { callee := .value (.func 22), args := #[.tmp 47, .tmp 48, .tmp 49], argTypes := #[32, 32, 3] }, none⟩,
    ⟨some 46, .move (.tmp 50), none⟩,
    ⟨some 51, .extract (.tmp 46) 0, none⟩,
    ⟨some 52, .extract (.tmp 46) 1, none⟩,
    ⟨some 10, .alloc 32, none⟩,
    ⟨none, .store 32 (.tmp 10) (.tmp 51), none⟩,
    ⟨some 11, .assign (.tmp 52), none⟩])
  (.seq
  (.seq
  (.reg [
    ⟨some 53, .move (.tmp 9), none⟩,
    ⟨some 54, .move (.tmp 11), none⟩,
    ⟨some 55, .binOp .neq 4 (.tmp 53) (.tmp 54) 4, none⟩,
    ⟨some 56, .move (.tmp 55), none⟩,
    ⟨some 57, .load 32 (.tmp 8), some (56, false)⟩,
    ⟨some 58, .load 32 (.tmp 10), some (56, false)⟩,
    ⟨some 59, .binOp .neq 32 (.tmp 57) (.tmp 58) 32, some (56, false)⟩,
    ⟨some 60, .pick (.tmp 56) (.const (.bool true)) (.tmp 59), none⟩])
  (.cond (.tmp 60)
    (.seq
    (.reg [
      ⟨some 4, .assign (.const (.bool false)), none⟩])
    .ret)
    .skip))
  (.seq
  (.seq
  (.reg [
    ⟨some 61, .move (.tmp 9), none⟩])
  (.cond (.tmp 61)
    (.seq
    (.raw (.region 9 rg11_0 true))
    (.seq
    (.reg [
      ⟨some 76, .load 32 (.tmp 8), none⟩,
      ⟨some 77, .load 32 (.tmp 12), none⟩,
      ⟨some 78, .move (.tmp 7), none⟩,
      ⟨some 79, .call { callee := .value (.func 23), args := #[.tmp 76, .tmp 77, .tmp 78], argTypes := #[32, 32, 3] }, none⟩,
      ⟨some 75, .move (.tmp 79), none⟩,
      ⟨some 80, .extract (.tmp 75) 0, none⟩,
      ⟨some 81, .extract (.tmp 75) 1, none⟩,
      ⟨some 13, .alloc 32, none⟩,
      ⟨none, .store 32 (.tmp 13) (.tmp 80), none⟩,
      ⟨some 14, .assign (.tmp 81), none⟩])
    (.seq
    (.reg [
      ⟨some 83, .load 32 (.tmp 6), none⟩,
      ⟨some 84, .load 32 (.tmp 12), none⟩,
      ⟨some 85, .move (.tmp 7), none⟩,
      ⟨some 86, .call { callee := .value (.func 23), args := #[.tmp 83, .tmp 84, .tmp 85], argTypes := #[32, 32, 3] }, none⟩,
      ⟨some 82, .move (.tmp 86), none⟩,
      ⟨some 87, .extract (.tmp 82) 0, none⟩,
      ⟨some 88, .extract (.tmp 82) 1, none⟩,
      ⟨some 15, .alloc 32, none⟩,
      ⟨none, .store 32 (.tmp 15) (.tmp 87), none⟩,
      ⟨some 16, .assign (.tmp 88), none⟩])
    (.seq
    (.reg [
      ⟨some 90, .load 32 (.tmp 5), none⟩,
      ⟨some 91, .load 32 (.tmp 15), none⟩,
      ⟨some 92, .move (.tmp 7), none⟩,
      ⟨some 93, .call { callee := .value (.func 23), args := #[.tmp 90, .tmp 91, .tmp 92], argTypes := #[32, 32, 3] }, none⟩,
      ⟨some 89, .move (.tmp 93), none⟩,
      ⟨some 94, .extract (.tmp 89) 0, none⟩,
      ⟨some 95, .extract (.tmp 89) 1, none⟩,
      ⟨some 17, .alloc 32, none⟩,
      ⟨none, .store 32 (.tmp 17) (.tmp 94), none⟩,
      ⟨some 18, .assign (.tmp 95), none⟩])
    (.seq
    (.reg [
      ⟨some 96, .move (.tmp 14), none⟩,
      ⟨some 97, .unOp .not 4 (.tmp 96), none⟩,
      ⟨some 98, .move (.tmp 97), none⟩,
      ⟨some 99, .move (.tmp 16), some (98, false)⟩,
      ⟨some 100, .unOp .not 4 (.tmp 99), some (98, false)⟩,
      ⟨some 101, .pick (.tmp 98) (.const (.bool true)) (.tmp 100), none⟩,
      ⟨some 102, .move (.tmp 101), none⟩,
      ⟨some 103, .move (.tmp 18), some (102, false)⟩,
      ⟨some 104, .unOp .not 4 (.tmp 103), some (102, false)⟩,
      ⟨some 105, .pick (.tmp 102) (.const (.bool true)) (.tmp 104), none⟩,
      ⟨some 106, .move (.tmp 105), none⟩,
      ⟨some 107, .load 32 (.tmp 13), some (106, false)⟩,
      ⟨some 108, .load 32 (.tmp 17), some (106, false)⟩,
      ⟨some 109, .binOp .neq 32 (.tmp 107) (.tmp 108) 32, some (106, false)⟩,
      ⟨some 110, .pick (.tmp 106) (.const (.bool true)) (.tmp 109), none⟩])
    (.cond (.tmp 110)
      (.seq
      (.reg [
        ⟨some 4, .assign (.const (.bool false)), none⟩])
      .ret)
      .skip))))))
    .skip))
  (.seq
  (.reg [
    ⟨some 112, .move (.tmp 1), none⟩,
    ⟨some 113, .call { callee := .value (.func 40), args := #[.tmp 112], argTypes := #[49] }, none⟩,
    ⟨some 111, .move (.tmp 113), none⟩,
    ⟨some 114, .extract (.tmp 111) 0, none⟩,
    ⟨some 115, .extract (.tmp 111) 1, none⟩,
    ⟨some 116, .extract (.tmp 111) 2, none⟩,
    ⟨some 19, .alloc 32, none⟩,
    ⟨none, .store 32 (.tmp 19) (.tmp 114), none⟩,
    ⟨some 20, .assign (.tmp 115), none⟩,
    ⟨some 21, .assign (.tmp 116), none⟩])
  (.seq
  (.reg [
    ⟨some 118, .load 32 (.tmp 19), none⟩,
    ⟨some 119, .move (.tmp 20), none⟩,
    ⟨some 120, .move (.tmp 21), none⟩,
    ⟨some 121, .call { callee := .value (.func 20), args := #[.tmp 118, .tmp 119, .tmp 120], argTypes := #[32, 3, 3] }, none⟩,
    ⟨some 117, .move (.tmp 121), none⟩,
    ⟨some 122, .extract (.tmp 117) 0, none⟩,
    ⟨some 123, .extract (.tmp 117) 1, none⟩,
    ⟨some 22, .alloc 32, none⟩,
    ⟨none, .store 32 (.tmp 22) (.tmp 122), none⟩,
    ⟨some 23, .assign (.tmp 123), none⟩])
  (.seq
  (.reg [
    ⟨some 125, .load 32 (.tmp 19), none⟩,
    ⟨some 126, .move (.tmp 20), none⟩,
    ⟨some 127, .move (.tmp 21), none⟩,
    ⟨some 128, .call { callee := .value (.func 18), args := #[.tmp 125, .tmp 126, .tmp 127], argTypes := #[32, 3, 3] }, none⟩,
    ⟨some 124, .move (.tmp 128), none⟩,
    ⟨some 129, .extract (.tmp 124) 0, none⟩,
    ⟨some 130, .extract (.tmp 124) 1, none⟩,
    ⟨some 24, .alloc 32, none⟩,
    ⟨none, .store 32 (.tmp 24) (.tmp 129), none⟩,
    ⟨some 25, .assign (.tmp 130), none⟩])
  (.seq
  (.seq
  (.reg [
    ⟨some 131, .move (.tmp 23), none⟩,
    ⟨some 132, .move (.tmp 25), none⟩,
    ⟨some 133, .binOp .neq 4 (.tmp 131) (.tmp 132) 4, none⟩,
    ⟨some 134, .move (.tmp 133), none⟩,
    ⟨some 135, .load 32 (.tmp 22), some (134, false)⟩,
    ⟨some 136, .load 32 (.tmp 24), some (134, false)⟩,
    ⟨some 137, .binOp .neq 32 (.tmp 135) (.tmp 136) 32, some (134, false)⟩,
    ⟨some 138, .pick (.tmp 134) (.const (.bool true)) (.tmp 137), none⟩])
  (.cond (.tmp 138)
    (.seq
    (.reg [
      ⟨some 4, .assign (.const (.bool false)), none⟩])
    .ret)
    .skip))
  (.seq
  (.seq
  (.reg [
    ⟨some 139, .move (.tmp 23), none⟩,
    ⟨some 140, .move (.tmp 139), none⟩,
    ⟨some 141, .move (.tmp 20), some (140, true)⟩,
    ⟨some 142, .binOp .lss 3 (.tmp 141) (.const (.int .i64 1000000)) 3, some (140, true)⟩,
    ⟨some 143, .pick (.tmp 140) (.tmp 142) (.const (.bool false)), none⟩])
  (.cond (.tmp 143)
    (.seq
    (.reg [
      ⟨some 145, .load 32 (.tmp 19), none⟩,
      ⟨some 146, .move (.tmp 20), none⟩,
      ⟨some 147, .binOp .add 3 (.tmp 146) (.const (.int .i64 1)) 3, none⟩,
      ⟨some 148, .move (.tmp 21), none⟩,
      ⟨some 149, .call { callee := .value (.func 20), args := #[.tmp 145, .tmp 147, .tmp 148], argTypes := #[32, 3, 3] }, none⟩,
      ⟨some 144, .move (.tmp 149), none⟩,
      ⟨some 150, .extract (.tmp 144) 0, none⟩,
      ⟨some 151, .extract (.tmp 144) 1, none⟩,
      ⟨some 26, .alloc 32, none⟩,
      ⟨none, .store 32 (.tmp 26) (.tmp 150), none⟩,
      ⟨some 27, .assign (.tmp 151), none⟩])
    (.seq
    (.reg [
      ⟨some 153, .load 32 (.tmp 22), none⟩,
      ⟨some 154, .load 32 (.tmp 19), none⟩,
      ⟨some 155, .move (.tmp 21), none⟩,
      ⟨some 156, .call { callee := .value (.func 23), args := #[.tmp 153, .tmp 154, .tmp 155], argTypes := #[32, 32, 3] }, none⟩,
      ⟨some 152, .move (.tmp 156), none⟩,
      ⟨some 157, .extract (.tmp 152) 0, none⟩,
      ⟨some 158, .extract (.tmp 152) 1, none⟩,
      ⟨some 28, .alloc 32, none⟩,
      ⟨none, .store 32 (.tmp 28) (.tmp 157), none⟩,
      ⟨some 29, .assign (.tmp 158), none⟩])
    (.seq
    (.reg [
      ⟨some 159, .move (.tmp 27), none⟩,
      ⟨some 160, .move (.tmp 159), none⟩,
      ⟨some 161, .move (.tmp 29), some (160, true)⟩,
      ⟨some 162, .pick (.tmp 160) (.tmp 161) (.const (.bool false)), none⟩,
      ⟨some 163, .move (.tmp 162), none⟩,
      ⟨some 164, .load 32 (.tmp 26), some (163, true)⟩,
      ⟨some 165, .load 32 (.tmp 28), some (163, true)⟩,
      ⟨some 166, .binOp .eql 32 (.tmp 164) (.tmp 165) 32, some (163, true)⟩,
      ⟨some 167, .pick (.tmp 163) (.tmp 166) (.const (.bool false)), none⟩,
      ⟨some 4, .assign (.tmp 167), none⟩])
    .ret)))
    .skip))
  (.seq
  (.reg [
    ⟨some 4, .assign (.const (.bool true)), none⟩])
  .ret)))))))))))))
theorem hd11 : Try.f11.body.map dec = some c11 := by kernel_rfl
theorem e11 {R : AV → AH → Prop} {h : AH} (x0 x1 : AV) (H : h.wf → AI Try.prog c11 (RetQ Try.prog [.tmp 4] R) [x0, x1, un, un, un, un, un, un, un, un, un, un, un, un, un, un, un, un, un, un, un, un, un, un, un, un, un, un, un, un, un, un, un, un, un, un, un, un, un, un, un, un, un, un, un, un, un, un, un, un, un, un, un, un, un, un, un, un, un, un, un, un, un, un, un, un, un, un, un, un, un, un, un, un, un, un, un, un, un, un, un, un, un, un, un, un, un, un, un, un, un, un, un, un, un, un, un, un, un, un, un, un, un, un, un, un, un, un, un, un, un, un, un, un, un, un, un, un, un, un, un, un, un, un, un, un, un, un, un, un, un, un, un, un, un, un, un, un, un, un, un, un, un, un, un, un, un, un, un, un, un, un, un, un, un, un, un, un, un, un, un, un, un, un, un, un, un, un] h) : AC Try.prog 11 [x0, x1] h R :=
  AC_of' (rs := [.tmp 4]) Try.func11 (by kernel_rfl) hd11 Try.ntmps11 rfl H
theorem dz11_0 {h0 : AH} {L : List It} {Q : Exit → List AV → List It → Prop} {a : List AV} {id : Nat} (H : LX Try.prog ⟨[14], []⟩ h0 L L (.c (⟨some 62, .move (.tmp 7), none⟩, .p) <| .c (⟨some 63, .binOp .rem 3 (.const (.int .i64 1)) (.tmp 62) 3, none⟩, .p) <| .c (⟨some 64, .move (.tmp 1), none⟩, .p) <| .c (⟨some 66, .move (.tmp 7), none⟩, .p) <| .c (⟨some 68, .move (.tmp 7), none⟩, .p) <| .c (⟨some 69, .binOp .sub 3 (.tmp 68) (.const (.int .i64 1)) 3, none⟩, .p) <| .c (⟨some 70, .move (.tmp 0), none⟩, .p) <| .c (⟨some 72, .move (.tmp 7), none⟩, .p) <| .t (.c (⟨some 65, .call { callee := .value (.func 39), args := #[.tmp 64], argTypes := #[49] }, none⟩, .e) <| .c (⟨some 67, .binOp .rem 3 (.tmp 65) (.tmp 66) 3, none⟩, .p) <| .t (.c (⟨some 71, .call { callee := .value (.func 39), args := #[.tmp 70], argTypes := #[49] }, none⟩, .e) <| .c (⟨some 73, .binOp .rem 3 (.tmp 71) (.tmp 72) 3, none⟩, .p) <| .c (⟨some 74, .build 32 #[(0, .tmp 63), (1, .tmp 67), (2, .tmp 69), (3, .tmp 73)], none⟩, .p) <| .c (⟨some 12, .alloc 32, none⟩, .e) <| .c (⟨none, .store 32 (.tmp 12) (.tmp 74), none⟩, .f) <| .n) (.c (⟨some 12, .alloc 32, none⟩, .e) <| .c (⟨some 71, .call { callee := .value (.func 39), args := #[.tmp 70], argTypes := #[49] }, none⟩, .e) <| .c (⟨some 73, .binOp .rem 3 (.tmp 71) (.tmp 72) 3, none⟩, .p) <| .c (⟨some 74, .build 32 #[(0, .tmp 63), (1, .tmp 67), (2, .tmp 69), (3, .tmp 73)], none⟩, .p) <| .c (⟨none, .store 32 (.tmp 12) (.tmp 74), none⟩, .f) <| .n)) (.c (⟨some 12, .alloc 32, none⟩, .e) <| .c (⟨some 65, .call { callee := .value (.func 39), args := #[.tmp 64], argTypes := #[49] }, none⟩, .e) <| .c (⟨some 67, .binOp .rem 3 (.tmp 65) (.tmp 66) 3, none⟩, .p) <| .c (⟨some 71, .call { callee := .value (.func 39), args := #[.tmp 70], argTypes := #[49] }, none⟩, .e) <| .c (⟨some 73, .binOp .rem 3 (.tmp 71) (.tmp 72) 3, none⟩, .p) <| .c (⟨some 74, .build 32 #[(0, .tmp 63), (1, .tmp 67), (2, .tmp 69), (3, .tmp 73)], none⟩, .p) <| .c (⟨none, .store 32 (.tmp 12) (.tmp 74), none⟩, .f) <| .n)) Q a) : LI Try.prog h0 L (.raw (.region id rg11_0 true)) Q a :=
  LI_draw (.c (0, .p) <| .c (1, .p) <| .c (2, .p) <| .c (4, .p) <| .c (6, .p) <| .c (7, .p) <| .c (8, .p) <| .c (10, .p) <| .t (.c (3, .e) <| .c (5, .p) <| .t (.c (9, .e) <| .c (11, .p) <| .c (12, .p) <| .c (13, .e) <| .c (14, .f) <| .n) (.c (13, .e) <| .c (9, .e) <| .c (11, .p) <| .c (12, .p) <| .c (14, .f) <| .n)) (.c (13, .e) <| .c (3, .e) <| .c (5, .p) <| .c (9, .e) <| .c (11, .p) <| .c (12, .p) <| .c (14, .f) <| .n)) [14] (by kernel_rfl) (by kernel_rfl) (by kernel_rfl) H
theorem dy11_0 {h0 : AH} {L : List It} {Q : Exit → List AV → List It → Prop} {a : List AV} {id : Nat} (H : LX Try.prog ⟨[3, 9, 13, 14], []⟩ h0 L L (.c (⟨some 62, .move (.tmp 7), none⟩, .p) <| .c (⟨some 63, .binOp .rem 3 (.const (.int .i64 1)) (.tmp 62) 3, none⟩, .p) <| .c (⟨some 64, .move (.tmp 1), none⟩, .p) <| .c (⟨some 66, .move (.tmp 7), none⟩, .p) <| .c (⟨some 68, .move (.tmp 7), none⟩, .p) <| .c (⟨some 69, .binOp .sub 3 (.tmp 68) (.const (.int .i64 1)) 3, none⟩, .p) <| .c (⟨some 70, .move (.tmp 0), none⟩, .p) <| .c (⟨some 72, .move (.tmp 7), none⟩, .p) <| .t (.c (⟨some 65, .call { callee := .value (.func 39), args := #[.tmp 64], argTypes := #[49] }, none⟩, .f) <| .c (⟨some 67, .binOp .rem 3 (.tmp 65) (.tmp 66) 3, none⟩, .p) <| .t (.c (⟨some 71, .call { callee := .value (.func 39), args := #[.tmp 70], argTypes := #[49] }, none⟩, .f) <| .c (⟨some 73, .binOp .rem 3 (.tmp 71) (.tmp 72) 3, none⟩, .p) <| .c (⟨some 74, .build 32 #[(0, .tmp 63), (1, .tmp 67), (2, .tmp 69), (3, .tmp 73)], none⟩, .p) <| .c (⟨some 12, .alloc 32, none⟩, .f) <| .c (⟨none, .store 32 (.tmp 12) (.tmp 74), none⟩, .f) <| .n) (.c (⟨some 12, .alloc 32, none⟩, .f) <| .c (⟨some 71, .call { callee := .value (.func 39), args := #[.tmp 70], argTypes := #[49] }, none⟩, .f) <| .c (⟨some 73, .binOp .rem 3 (.tmp 71) (.tmp 72) 3, none⟩, .p) <| .c (⟨some 74, .build 32 #[(0, .tmp 63), (1, .tmp 67), (2, .tmp 69), (3, .tmp 73)], none⟩, .p) <| .c (⟨none, .store 32 (.tmp 12) (.tmp 74), none⟩, .f) <| .n)) (.c (⟨some 12, .alloc 32, none⟩, .f) <| .c (⟨some 65, .call { callee := .value (.func 39), args := #[.tmp 64], argTypes := #[49] }, none⟩, .f) <| .c (⟨some 67, .binOp .rem 3 (.tmp 65) (.tmp 66) 3, none⟩, .p) <| .c (⟨some 71, .call { callee := .value (.func 39), args := #[.tmp 70], argTypes := #[49] }, none⟩, .f) <| .c (⟨some 73, .binOp .rem 3 (.tmp 71) (.tmp 72) 3, none⟩, .p) <| .c (⟨some 74, .build 32 #[(0, .tmp 63), (1, .tmp 67), (2, .tmp 69), (3, .tmp 73)], none⟩, .p) <| .c (⟨none, .store 32 (.tmp 12) (.tmp 74), none⟩, .f) <| .n)) Q a) : LI Try.prog h0 L (.raw (.region id rg11_0 true)) Q a :=
  LI_draw (.c (0, .p) <| .c (1, .p) <| .c (2, .p) <| .c (4, .p) <| .c (6, .p) <| .c (7, .p) <| .c (8, .p) <| .c (10, .p) <| .t (.c (3, .f) <| .c (5, .p) <| .t (.c (9, .f) <| .c (11, .p) <| .c (12, .p) <| .c (13, .f) <| .c (14, .f) <| .n) (.c (13, .f) <| .c (9, .f) <| .c (11, .p) <| .c (12, .p) <| .c (14, .f) <| .n)) (.c (13, .f) <| .c (3, .f) <| .c (5, .p) <| .c (9, .f) <| .c (11, .p) <| .c (12, .p) <| .c (14, .f) <| .n)) [3, 9, 13, 14] (by kernel_rfl) (by kernel_rfl) (by kernel_rfl) H

end Go.Proofs.Ytfgealbhigkddaa
