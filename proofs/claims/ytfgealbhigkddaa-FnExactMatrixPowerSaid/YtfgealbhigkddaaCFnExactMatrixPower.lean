/- The short forms of the functions' code, and facts on types. -/
import Derived.Test.YtfgealbhigkddaaProg
import Derived.Test.YtfgealbhigkddaaC5
namespace Go.Proofs.Ytfgealbhigkddaa
open Go.AL
set_option linter.unusedVariables false
theorem sz0 : szT Try.prog 0 = some 1 := by kernel_rfl
theorem by0 : byT Try.prog 0 = some 0 := by kernel_rfl
theorem ag0 : aggT Try.prog 0 = some false := by kernel_rfl
instance jsz0 : Tsz Try.prog 0 1 := ⟨sz0⟩
instance jby0 : Tby Try.prog 0 0 := ⟨by0⟩
instance jag0 : Tag Try.prog 0 false := ⟨ag0⟩
theorem sz1 : szT Try.prog 1 = some 1 := by kernel_rfl
theorem by1 : byT Try.prog 1 = some 8 := by kernel_rfl
theorem ag1 : aggT Try.prog 1 = some false := by kernel_rfl
instance jsz1 : Tsz Try.prog 1 1 := ⟨sz1⟩
instance jby1 : Tby Try.prog 1 8 := ⟨by1⟩
instance jag1 : Tag Try.prog 1 false := ⟨ag1⟩
theorem ze1 : zeroA Try.prog 1 = some .nf := by kernel_rfl
instance jze1 : Tze Try.prog 1 (.nf) := ⟨ze1⟩
theorem sz2 : szT Try.prog 2 = some 1 := by kernel_rfl
theorem by2 : byT Try.prog 2 = some 8 := by kernel_rfl
theorem ag2 : aggT Try.prog 2 = some false := by kernel_rfl
instance jsz2 : Tsz Try.prog 2 1 := ⟨sz2⟩
instance jby2 : Tby Try.prog 2 8 := ⟨by2⟩
instance jag2 : Tag Try.prog 2 false := ⟨ag2⟩
instance jik2 : Tik Try.prog 2 .i64 := ⟨Try.underlying2⟩
theorem ze2 : zeroA Try.prog 2 = some (.i .i64 0) := by kernel_rfl
instance jze2 : Tze Try.prog 2 (.i .i64 0) := ⟨ze2⟩
theorem sz3 : szT Try.prog 3 = some 1 := by kernel_rfl
theorem by3 : byT Try.prog 3 = some 8 := by kernel_rfl
theorem ag3 : aggT Try.prog 3 = some false := by kernel_rfl
instance jsz3 : Tsz Try.prog 3 1 := ⟨sz3⟩
instance jby3 : Tby Try.prog 3 8 := ⟨by3⟩
instance jag3 : Tag Try.prog 3 false := ⟨ag3⟩
instance jik3 : Tik Try.prog 3 .i64 := ⟨Try.underlying3⟩
theorem ze3 : zeroA Try.prog 3 = some (.i .i64 0) := by kernel_rfl
instance jze3 : Tze Try.prog 3 (.i .i64 0) := ⟨ze3⟩
theorem sz4 : szT Try.prog 4 = some 1 := by kernel_rfl
theorem by4 : byT Try.prog 4 = some 1 := by kernel_rfl
theorem ag4 : aggT Try.prog 4 = some false := by kernel_rfl
instance jsz4 : Tsz Try.prog 4 1 := ⟨sz4⟩
instance jby4 : Tby Try.prog 4 1 := ⟨by4⟩
instance jag4 : Tag Try.prog 4 false := ⟨ag4⟩
instance jbo4 : Tbo Try.prog 4 := ⟨Try.underlying4⟩
theorem ze4 : zeroA Try.prog 4 = some (.b false) := by kernel_rfl
instance jze4 : Tze Try.prog 4 (.b false) := ⟨ze4⟩
theorem sz5 : szT Try.prog 5 = some 1 := by kernel_rfl
theorem by5 : byT Try.prog 5 = some 1 := by kernel_rfl
theorem ag5 : aggT Try.prog 5 = some false := by kernel_rfl
instance jsz5 : Tsz Try.prog 5 1 := ⟨sz5⟩
instance jby5 : Tby Try.prog 5 1 := ⟨by5⟩
instance jag5 : Tag Try.prog 5 false := ⟨ag5⟩
instance jik5 : Tik Try.prog 5 .u8 := ⟨Try.underlying5⟩
theorem ze5 : zeroA Try.prog 5 = some (.i .u8 0) := by kernel_rfl
instance jze5 : Tze Try.prog 5 (.i .u8 0) := ⟨ze5⟩
theorem sz6 : szT Try.prog 6 = some 1 := by kernel_rfl
theorem by6 : byT Try.prog 6 = some 1 := by kernel_rfl
theorem ag6 : aggT Try.prog 6 = some false := by kernel_rfl
instance jsz6 : Tsz Try.prog 6 1 := ⟨sz6⟩
instance jby6 : Tby Try.prog 6 1 := ⟨by6⟩
instance jag6 : Tag Try.prog 6 false := ⟨ag6⟩
instance jik6 : Tik Try.prog 6 .u8 := ⟨Try.underlying6⟩
theorem ze6 : zeroA Try.prog 6 = some (.i .u8 0) := by kernel_rfl
instance jze6 : Tze Try.prog 6 (.i .u8 0) := ⟨ze6⟩
theorem sz8 : szT Try.prog 8 = some 4 := by kernel_rfl
theorem by8 : byT Try.prog 8 = some 24 := by kernel_rfl
theorem ag8 : aggT Try.prog 8 = some true := by kernel_rfl
instance jsz8 : Tsz Try.prog 8 4 := ⟨sz8⟩
instance jby8 : Tby Try.prog 8 24 := ⟨by8⟩
instance jag8 : Tag Try.prog 8 true := ⟨ag8⟩
theorem ze8 : zeroA Try.prog 8 = some (.agg [(.i .i64 0), (.i .i64 0), (.b false), (.i .u8 0)]) := by kernel_rfl
instance jze8 : Tze Try.prog 8 (.agg [(.i .i64 0), (.i .i64 0), (.b false), (.i .u8 0)]) := ⟨ze8⟩
theorem fl8_0 : fldA Try.prog 8 0 = some (0, 1, false) := by kernel_rfl
instance jfl8_0 : Tfl Try.prog 8 0 0 1 false := ⟨fl8_0⟩
theorem fl8_1 : fldA Try.prog 8 1 = some (1, 1, false) := by kernel_rfl
instance jfl8_1 : Tfl Try.prog 8 1 1 1 false := ⟨fl8_1⟩
theorem fl8_2 : fldA Try.prog 8 2 = some (2, 1, false) := by kernel_rfl
instance jfl8_2 : Tfl Try.prog 8 2 2 1 false := ⟨fl8_2⟩
theorem fl8_3 : fldA Try.prog 8 3 = some (3, 1, false) := by kernel_rfl
instance jfl8_3 : Tfl Try.prog 8 3 3 1 false := ⟨fl8_3⟩
theorem pa8 : plA Try.prog 8 = some [(0, 1), (1, 1), (2, 1), (3, 1)] := by kernel_rfl
instance jpl8 : Tpl Try.prog 8 [(0, 1), (1, 1), (2, 1), (3, 1)] := ⟨pa8⟩
theorem sz25 : szT Try.prog 25 = some 1 := by kernel_rfl
theorem by25 : byT Try.prog 25 = some 24 := by kernel_rfl
theorem ag25 : aggT Try.prog 25 = some false := by kernel_rfl
instance jsz25 : Tsz Try.prog 25 1 := ⟨sz25⟩
instance jby25 : Tby Try.prog 25 24 := ⟨by25⟩
instance jag25 : Tag Try.prog 25 false := ⟨ag25⟩
instance jsl25 : Tsl Try.prog 25 3 := ⟨Try.underlying25⟩
theorem ze25 : zeroA Try.prog 25 = some .ns := by kernel_rfl
instance jze25 : Tze Try.prog 25 (.ns) := ⟨ze25⟩
theorem sz31 : szT Try.prog 31 = some 4 := by kernel_rfl
theorem by31 : byT Try.prog 31 = some 32 := by kernel_rfl
theorem ag31 : aggT Try.prog 31 = some true := by kernel_rfl
instance jsz31 : Tsz Try.prog 31 4 := ⟨sz31⟩
instance jby31 : Tby Try.prog 31 32 := ⟨by31⟩
instance jag31 : Tag Try.prog 31 true := ⟨ag31⟩
theorem ze31 : zeroA Try.prog 31 = some (.agg [(.i .i64 0), (.i .i64 0), (.i .i64 0), (.i .i64 0)]) := by kernel_rfl
instance jze31 : Tze Try.prog 31 (.agg [(.i .i64 0), (.i .i64 0), (.i .i64 0), (.i .i64 0)]) := ⟨ze31⟩
theorem fl31_0 : fldA Try.prog 31 0 = some (0, 1, false) := by kernel_rfl
instance jfl31_0 : Tfl Try.prog 31 0 0 1 false := ⟨fl31_0⟩
theorem fl31_1 : fldA Try.prog 31 1 = some (1, 1, false) := by kernel_rfl
instance jfl31_1 : Tfl Try.prog 31 1 1 1 false := ⟨fl31_1⟩
theorem fl31_2 : fldA Try.prog 31 2 = some (2, 1, false) := by kernel_rfl
instance jfl31_2 : Tfl Try.prog 31 2 2 1 false := ⟨fl31_2⟩
theorem fl31_3 : fldA Try.prog 31 3 = some (3, 1, false) := by kernel_rfl
instance jfl31_3 : Tfl Try.prog 31 3 3 1 false := ⟨fl31_3⟩
theorem pa31 : plA Try.prog 31 = some [(0, 1), (1, 1), (2, 1), (3, 1)] := by kernel_rfl
instance jpl31 : Tpl Try.prog 31 [(0, 1), (1, 1), (2, 1), (3, 1)] := ⟨pa31⟩
theorem sz32 : szT Try.prog 32 = some 4 := by kernel_rfl
theorem by32 : byT Try.prog 32 = some 32 := by kernel_rfl
theorem ag32 : aggT Try.prog 32 = some true := by kernel_rfl
instance jsz32 : Tsz Try.prog 32 4 := ⟨sz32⟩
instance jby32 : Tby Try.prog 32 32 := ⟨by32⟩
instance jag32 : Tag Try.prog 32 true := ⟨ag32⟩
theorem ze32 : zeroA Try.prog 32 = some (.agg [(.i .i64 0), (.i .i64 0), (.i .i64 0), (.i .i64 0)]) := by kernel_rfl
instance jze32 : Tze Try.prog 32 (.agg [(.i .i64 0), (.i .i64 0), (.i .i64 0), (.i .i64 0)]) := ⟨ze32⟩
theorem fl32_0 : fldA Try.prog 32 0 = some (0, 1, false) := by kernel_rfl
instance jfl32_0 : Tfl Try.prog 32 0 0 1 false := ⟨fl32_0⟩
theorem fl32_1 : fldA Try.prog 32 1 = some (1, 1, false) := by kernel_rfl
instance jfl32_1 : Tfl Try.prog 32 1 1 1 false := ⟨fl32_1⟩
theorem fl32_2 : fldA Try.prog 32 2 = some (2, 1, false) := by kernel_rfl
instance jfl32_2 : Tfl Try.prog 32 2 2 1 false := ⟨fl32_2⟩
theorem fl32_3 : fldA Try.prog 32 3 = some (3, 1, false) := by kernel_rfl
instance jfl32_3 : Tfl Try.prog 32 3 3 1 false := ⟨fl32_3⟩
theorem pa32 : plA Try.prog 32 = some [(0, 1), (1, 1), (2, 1), (3, 1)] := by kernel_rfl
instance jpl32 : Tpl Try.prog 32 [(0, 1), (1, 1), (2, 1), (3, 1)] := ⟨pa32⟩
theorem sz41 : szT Try.prog 41 = some 1 := by kernel_rfl
theorem by41 : byT Try.prog 41 = some 8 := by kernel_rfl
theorem ag41 : aggT Try.prog 41 = some false := by kernel_rfl
instance jsz41 : Tsz Try.prog 41 1 := ⟨sz41⟩
instance jby41 : Tby Try.prog 41 8 := ⟨by41⟩
instance jag41 : Tag Try.prog 41 false := ⟨ag41⟩
theorem ze41 : zeroA Try.prog 41 = some .nf := by kernel_rfl
instance jze41 : Tze Try.prog 41 (.nf) := ⟨ze41⟩
theorem sz71 : szT Try.prog 71 = some 1 := by kernel_rfl
theorem by71 : byT Try.prog 71 = some 8 := by kernel_rfl
theorem ag71 : aggT Try.prog 71 = some false := by kernel_rfl
instance jsz71 : Tsz Try.prog 71 1 := ⟨sz71⟩
instance jby71 : Tby Try.prog 71 8 := ⟨by71⟩
instance jag71 : Tag Try.prog 71 false := ⟨ag71⟩
theorem ze71 : zeroA Try.prog 71 = some .nf := by kernel_rfl
instance jze71 : Tze Try.prog 71 (.nf) := ⟨ze71⟩

/-- spec.l1In -/
def c42 : IC :=
  (.seq
  (.reg [
    ⟨some 6, .assign (.const (.bool false)), none⟩])
  (.seq
  (.reg [
    ⟨some 7, .move (.tmp 0), none⟩,
    ⟨some 8, .move (.tmp 1), none⟩,
    ⟨some 9, .binOp .geq 3 (.tmp 7) (.tmp 8) 3, none⟩,
    ⟨some 10, .move (.tmp 9), none⟩,
    ⟨some 11, .move (.tmp 0), some (10, true)⟩,
    ⟨some 12, .move (.tmp 2), some (10, true)⟩,
    ⟨some 13, .binOp .leq 3 (.tmp 11) (.tmp 12) 3, some (10, true)⟩,
    ⟨some 14, .pick (.tmp 10) (.tmp 13) (.const (.bool false)), none⟩,
    ⟨some 6, .assign (.tmp 14), none⟩])
  .ret))
theorem hd42 : Try.f42.body.map dec = some c42 := by kernel_rfl
theorem e42 {R : AV → AH → Prop} {h : AH} (x0 x1 x2 : AV) (H : h.wf → AI Try.prog c42 (RetQ Try.prog [.tmp 6] R) [x0, x1, x2, un, un, un, un, un, un, un, un, un, un, un, un] h) : AC Try.prog 42 [x0, x1, x2] h R :=
  AC_of' (rs := [.tmp 6]) Try.func42 (by kernel_rfl) hd42 Try.ntmps42 rfl H

/-- spec.moModulus -/
def c41 : IC :=
  (.seq
  (.reg [
    ⟨some 2, .assign (.const (.bool false)), none⟩])
  (.seq
  (.reg [
    ⟨some 3, .move (.tmp 0), none⟩,
    ⟨some 4, .call { callee := .value (.func 42), args := #[.tmp 3, .const (.int .i64 2), .const (.int .i64 10000)], argTypes := #[3, 3, 3] }, none⟩,
    ⟨some 2, .assign (.tmp 4), none⟩])
  .ret))
theorem hd41 : Try.f41.body.map dec = some c41 := by kernel_rfl
theorem e41 {R : AV → AH → Prop} {h : AH} (x0 : AV) (H : h.wf → AI Try.prog c41 (RetQ Try.prog [.tmp 2] R) [x0, un, un, un, un] h) : AC Try.prog 41 [x0] h R :=
  AC_of' (rs := [.tmp 2]) Try.func41 (by kernel_rfl) hd41 Try.ntmps41 rfl H

/-- spec.l1All -/
def c44 : IC :=
  (.seq
  (.reg [
    ⟨some 6, .assign (.const (.bool false)), none⟩])
  (.seq
  (.seq
  (.reg [
    ⟨some 9, .move (.tmp 0), none⟩,
    ⟨some 10, .call { callee := .builtin .len, args := #[.tmp 9], argTypes := #[25] }, none⟩,
    ⟨some 11, .move (.const (.int .i64 0)), none⟩])
  (.block 0
  (.loop
    (.seq
    (.reg [
      ⟨some 12, .binOp .lss 3 (.tmp 11) (.tmp 10) 3, none⟩])
    (.seq
    (.cond (.tmp 12)
      .skip
      (.exit 0))
    (.seq
    (.block 1
    (.seq
    (.reg [
      ⟨some 13, .indexAddr 25 (.tmp 9) (.tmp 11), none⟩,
      ⟨some 14, .load 3 (.tmp 13), none⟩,
      ⟨some 8, .assign (.tmp 14), none⟩])
    (.seq
    (.reg [
      ⟨some 15, .move (.tmp 8), none⟩,
      ⟨some 16, .move (.tmp 1), none⟩,
      ⟨some 17, .move (.tmp 2), none⟩,
      ⟨some 18, .call { callee := .value (.func 42), args := #[.tmp 15, .tmp 16, .tmp 17], argTypes := #[3, 3, 3] }, none⟩,
      ⟨some 19, .unOp .not 4 (.tmp 18), none⟩])
    (.cond (.tmp 19)
      (.seq
      (.reg [
        ⟨some 6, .assign (.const (.bool false)), none⟩])
      .ret)
      .skip))))
    (.reg [
      ⟨some 20, .binOp .add 3 (.tmp 11) (.const (.int .i64 1)) 3, none⟩,
      ⟨some 11, .move (.tmp 20), none⟩])))))))
  (.seq
  (.reg [
    ⟨some 6, .assign (.const (.bool true)), none⟩])
  .ret)))
theorem hd44 : Try.f44.body.map dec = some c44 := by kernel_rfl
theorem e44 {R : AV → AH → Prop} {h : AH} (x0 x1 x2 : AV) (H : h.wf → AI Try.prog c44 (RetQ Try.prog [.tmp 6] R) [x0, x1, x2, un, un, un, un, un, un, un, un, un, un, un, un, un, un, un, un, un, un] h) : AC Try.prog 44 [x0, x1, x2] h R :=
  AC_of' (rs := [.tmp 6]) Try.func44 (by kernel_rfl) hd44 Try.ntmps44 rfl H

/-- spec.moMatrix -/
def c52 : IC :=
  (.seq
  (.reg [
    ⟨some 2, .box 32 (.tmp 0), none⟩,
    ⟨some 4, .assign (.const (.bool false)), none⟩])
  (.seq
  (.reg [
    ⟨some 5, .fieldAddr 32 (.tmp 2) 0, none⟩,
    ⟨some 6, .load 3 (.tmp 5), none⟩,
    ⟨some 7, .fieldAddr 32 (.tmp 2) 1, none⟩,
    ⟨some 8, .load 3 (.tmp 7), none⟩,
    ⟨some 9, .fieldAddr 32 (.tmp 2) 2, none⟩,
    ⟨some 10, .load 3 (.tmp 9), none⟩,
    ⟨some 11, .fieldAddr 32 (.tmp 2) 3, none⟩,
    ⟨some 12, .load 3 (.tmp 11), none⟩,
    ⟨some 13, .buildSlice 25 4 #[(0, .tmp 6), (1, .tmp 8), (2, .tmp 10), (3, .tmp 12)], none⟩,
    ⟨some 14, .move (.tmp 1), none⟩,
    ⟨some 15, .binOp .sub 3 (.tmp 14) (.const (.int .i64 1)) 3, none⟩,
    ⟨some 16, .call { callee := .value (.func 44), args := #[.tmp 13, .const (.int .i64 0), .tmp 15], argTypes := #[25, 3, 3] }, none⟩,
    ⟨some 4, .assign (.tmp 16), none⟩])
  .ret))
theorem hd52 : Try.f52.body.map dec = some c52 := by kernel_rfl
theorem e52 {R : AV → AH → Prop} {h : AH} (x0 x1 : AV) (H : h.wf → AI Try.prog c52 (RetQ Try.prog [.tmp 4] R) [x0, x1, un, un, un, un, un, un, un, un, un, un, un, un, un, un, un] h) : AC Try.prog 52 [x0, x1] h R :=
  AC_of' (rs := [.tmp 4]) Try.func52 (by kernel_rfl) hd52 Try.ntmps52 rfl H

/-- spec.moExponent -/
def c53 : IC :=
  (.seq
  (.reg [
    ⟨some 2, .assign (.const (.bool false)), none⟩])
  (.seq
  (.reg [
    ⟨some 3, .move (.tmp 0), none⟩,
    ⟨some 4, .call { callee := .value (.func 42), args := #[.tmp 3, .const (.int .i64 0), .const (.int .i64 1000000)], argTypes := #[3, 3, 3] }, none⟩,
    ⟨some 2, .assign (.tmp 4), none⟩])
  .ret))
theorem hd53 : Try.f53.body.map dec = some c53 := by kernel_rfl
theorem e53 {R : AV → AH → Prop} {h : AH} (x0 : AV) (H : h.wf → AI Try.prog c53 (RetQ Try.prog [.tmp 2] R) [x0, un, un, un, un] h) : AC Try.prog 53 [x0] h R :=
  AC_of' (rs := [.tmp 2]) Try.func53 (by kernel_rfl) hd53 Try.ntmps53 rfl H

noncomputable def rg54_0 : Array Oper := rawAt Try.f54 0
-- NO ORDER
/-- spec.moTimes -/
noncomputable def c54 : IC :=
  (.seq
  (.reg [
    ⟨some 3, .box 32 (.tmp 0), none⟩,
    ⟨some 4, .box 32 (.tmp 1), none⟩,
    ⟨some 6, .alloc 32, none⟩])
  (.seq
  (.raw (.region 1 rg54_0 true))
  .ret))
theorem hd54 : Try.f54.body.map dec = some c54 := by kernel_rfl
theorem e54 {R : AV → AH → Prop} {h : AH} (x0 x1 x2 : AV) (H : h.wf → AI Try.prog c54 (RetQ Try.prog [.cell 6 32] R) [x0, x1, x2, un, un, un, un, un, un, un, un, un, un, un, un, un, un, un, un, un, un, un, un, un, un, un, un, un, un, un, un, un, un, un, un, un, un, un, un, un, un, un, un, un, un, un, un, un, un, un, un, un, un, un, un, un, un, un, un, un] h) : AC Try.prog 54 [x0, x1, x2] h R :=
  AC_of' (rs := [.cell 6 32]) Try.func54 (by kernel_rfl) hd54 Try.ntmps54 rfl H
theorem dz54_0 {h0 : AH} {L : List It} {Q : Exit → List AV → List It → Prop} {a : List AV} {id : Nat} (H : LX Try.prog [53] h0 L L [(⟨some 7, .fieldAddr 32 (.tmp 3) 0, none⟩, .p),
  (⟨some 8, .load 3 (.tmp 7), none⟩, .l),
  (⟨some 9, .fieldAddr 32 (.tmp 4) 0, none⟩, .p),
  (⟨some 10, .load 3 (.tmp 9), none⟩, .l),
  (⟨some 11, .binOp .mul 3 (.tmp 8) (.tmp 10) 3, none⟩, .p),
  (⟨some 12, .fieldAddr 32 (.tmp 3) 1, none⟩, .p),
  (⟨some 13, .load 3 (.tmp 12), none⟩, .l),
  (⟨some 14, .fieldAddr 32 (.tmp 4) 2, none⟩, .p),
  (⟨some 15, .load 3 (.tmp 14), none⟩, .l),
  (⟨some 16, .binOp .mul 3 (.tmp 13) (.tmp 15) 3, none⟩, .p),
  (⟨some 17, .binOp .add 3 (.tmp 11) (.tmp 16) 3, none⟩, .p),
  (⟨some 18, .move (.tmp 2), none⟩, .p),
  (⟨some 19, .binOp .rem 3 (.tmp 17) (.tmp 18) 3, none⟩, .p),
  (⟨some 20, .fieldAddr 32 (.tmp 3) 0, none⟩, .p),
  (⟨some 21, .load 3 (.tmp 20), none⟩, .l),
  (⟨some 22, .fieldAddr 32 (.tmp 4) 1, none⟩, .p),
  (⟨some 23, .load 3 (.tmp 22), none⟩, .l),
  (⟨some 24, .binOp .mul 3 (.tmp 21) (.tmp 23) 3, none⟩, .p),
  (⟨some 25, .fieldAddr 32 (.tmp 3) 1, none⟩, .p),
  (⟨some 26, .load 3 (.tmp 25), none⟩, .l),
  (⟨some 27, .fieldAddr 32 (.tmp 4) 3, none⟩, .p),
  (⟨some 28, .load 3 (.tmp 27), none⟩, .l),
  (⟨some 29, .binOp .mul 3 (.tmp 26) (.tmp 28) 3, none⟩, .p),
  (⟨some 30, .binOp .add 3 (.tmp 24) (.tmp 29) 3, none⟩, .p),
  (⟨some 31, .move (.tmp 2), none⟩, .p),
  (⟨some 32, .binOp .rem 3 (.tmp 30) (.tmp 31) 3, none⟩, .p),
  (⟨some 33, .fieldAddr 32 (.tmp 3) 2, none⟩, .p),
  (⟨some 34, .load 3 (.tmp 33), none⟩, .l),
  (⟨some 35, .fieldAddr 32 (.tmp 4) 0, none⟩, .p),
  (⟨some 36, .load 3 (.tmp 35), none⟩, .l),
  (⟨some 37, .binOp .mul 3 (.tmp 34) (.tmp 36) 3, none⟩, .p),
  (⟨some 38, .fieldAddr 32 (.tmp 3) 3, none⟩, .p),
  (⟨some 39, .load 3 (.tmp 38), none⟩, .l),
  (⟨some 40, .fieldAddr 32 (.tmp 4) 2, none⟩, .p),
  (⟨some 41, .load 3 (.tmp 40), none⟩, .l),
  (⟨some 42, .binOp .mul 3 (.tmp 39) (.tmp 41) 3, none⟩, .p),
  (⟨some 43, .binOp .add 3 (.tmp 37) (.tmp 42) 3, none⟩, .p),
  (⟨some 44, .move (.tmp 2), none⟩, .p),
  (⟨some 45, .binOp .rem 3 (.tmp 43) (.tmp 44) 3, none⟩, .p),
  (⟨some 46, .fieldAddr 32 (.tmp 3) 2, none⟩, .p),
  (⟨some 47, .load 3 (.tmp 46), none⟩, .l),
  (⟨some 48, .fieldAddr 32 (.tmp 4) 1, none⟩, .p),
  (⟨some 49, .load 3 (.tmp 48), none⟩, .l),
  (⟨some 50, .binOp .mul 3 (.tmp 47) (.tmp 49) 3, none⟩, .p),
  (⟨some 51, .fieldAddr 32 (.tmp 3) 3, none⟩, .p),
  (⟨some 52, .load 3 (.tmp 51), none⟩, .l),
  (⟨some 53, .fieldAddr 32 (.tmp 4) 3, none⟩, .p),
  (⟨some 54, .load 3 (.tmp 53), none⟩, .l),
  (⟨some 55, .binOp .mul 3 (.tmp 52) (.tmp 54) 3, none⟩, .p),
  (⟨some 56, .binOp .add 3 (.tmp 50) (.tmp 55) 3, none⟩, .p),
  (⟨some 57, .move (.tmp 2), none⟩, .p),
  (⟨some 58, .binOp .rem 3 (.tmp 56) (.tmp 57) 3, none⟩, .p),
  (⟨some 59, .build 32 #[(0, .tmp 19), (1, .tmp 32), (2, .tmp 45), (3, .tmp 58)], none⟩, .p),
  (⟨none, .store 32 (.tmp 6) (.tmp 59), none⟩, .f)] Q a) : LI Try.prog h0 L (.raw (.region id rg54_0 true)) Q a :=
  LI_draw [(0, .p), (1, .l), (2, .p), (3, .l), (4, .p), (5, .p), (6, .l), (7, .p), (8, .l), (9, .p), (10, .p), (11, .p), (12, .p), (13, .p), (14, .l), (15, .p), (16, .l), (17, .p), (18, .p), (19, .l), (20, .p), (21, .l), (22, .p), (23, .p), (24, .p), (25, .p), (26, .p), (27, .l), (28, .p), (29, .l), (30, .p), (31, .p), (32, .l), (33, .p), (34, .l), (35, .p), (36, .p), (37, .p), (38, .p), (39, .p), (40, .l), (41, .p), (42, .l), (43, .p), (44, .p), (45, .l), (46, .p), (47, .l), (48, .p), (49, .p), (50, .p), (51, .p), (52, .p), (53, .f)] [53] (by kernel_rfl) (by kernel_rfl) (by kernel_rfl) H

/-- spec.MatrixPower -/
def c18 : IC :=
  (.seq
  (.reg [
    ⟨some 3, .box 32 (.tmp 0), none⟩,
    ⟨some 6, .alloc 32, none⟩,
    ⟨some 7, .assign (.const (.bool false)), none⟩])
  (.seq
  (.seq
  (.reg [
    ⟨some 9, .move (.tmp 2), none⟩,
    ⟨some 10, .call { callee := .value (.func 41), args := #[.tmp 9], argTypes := #[3] }, none⟩,
    ⟨some 11, .unOp .not 4 (.tmp 10), none⟩,
    ⟨some 12, .move (.tmp 11), none⟩,
    ⟨some 13, .load 32 (.tmp 3), some (12, false)⟩,
    ⟨some 14, .move (.tmp 2), some (12, false)⟩,
    ⟨some 15, .call { callee := .value (.func 52), args := #[.tmp 13, .tmp 14], argTypes := #[32, 3] }, some (12, false)⟩,
    ⟨some 16, .unOp .not 4 (.tmp 15), some (12, false)⟩,
    ⟨some 17, .pick (.tmp 12) (.const (.bool true)) (.tmp 16), none⟩,
    ⟨some 18, .move (.tmp 17), none⟩,
    ⟨some 19, .move (.tmp 1), some (18, false)⟩,
    ⟨some 20, .call { callee := .value (.func 53), args := #[.tmp 19], argTypes := #[3] }, some (18, false)⟩,
    ⟨some 21, .unOp .not 4 (.tmp 20), some (18, false)⟩,
    ⟨some 22, .pick (.tmp 18) (.const (.bool true)) (.tmp 21), none⟩])
  (.cond (.tmp 22)
    (.seq
    (.reg [
      ⟨some 23, .build 32 #[], none⟩,
      ⟨none, .store 32 (.tmp 6) (.tmp 23), none⟩,
      ⟨some 7, .assign (.const (.bool false)), none⟩])
    .ret)
    .skip))
  (.seq
  (.reg [
    ⟨some 24, .build 32 #[(0, .const (.int .i64 1)), (3, .const (.int .i64 1))], none⟩,
    ⟨some 8, .alloc 32, none⟩,
    ⟨none, .store 32 (.tmp 8) (.tmp 24), none⟩])
  (.seq
  (.block 0
  (.loop
    (.seq
    (.seq
    (.reg [
      ⟨some 25, .move (.tmp 1), none⟩,
      ⟨some 26, .binOp .gtr 3 (.tmp 25) (.const (.int .i64 0)) 3, none⟩])
    (.cond (.tmp 26)
      .skip
      (.exit 0)))
    (.seq
    (.block 1
    (.seq
    (.seq
    (.reg [
      ⟨some 29, .move (.tmp 1), none⟩,
      ⟨some 30, .binOp .rem 3 (.tmp 29) (.const (.int .i64 2)) 3, none⟩,
      ⟨some 31, .binOp .eql 3 (.tmp 30) (.const (.int .i64 1)) 3, none⟩])
    (.cond (.tmp 31)
      (.reg [
        ⟨some 32, .load 32 (.tmp 8), none⟩,
        ⟨some 33, .load 32 (.tmp 3), none⟩,
        ⟨some 34, .move (.tmp 2), none⟩,
        ⟨some 35, .call { callee := .value (.func 54), args := #[.tmp 32, .tmp 33, .tmp 34], argTypes := #[32, 32, 3] }, none⟩,
        ⟨none, .store 32 (.tmp 8) (.tmp 35), none⟩])
      .skip))
    (.reg [
      ⟨some 36, .load 32 (.tmp 3), none⟩,
      ⟨some 37, .load 32 (.tmp 3), none⟩,
      ⟨some 38, .move (.tmp 2), none⟩,
      ⟨some 39, .call { callee := .value (.func 54), args := #[.tmp 36, .tmp 37, .tmp 38], argTypes := #[32, 32, 3] }, none⟩,
      ⟨none, .store 32 (.tmp 3) (.tmp 39), none⟩])))
    (.reg [
      ⟨some 27, .move (.tmp 1), none⟩,
      ⟨some 28, .binOp .quo 3 (.tmp 27) (.const (.int .i64 2)) 3, none⟩,
      ⟨some 1, .assign (.tmp 28), none⟩])))))
  (.seq
  (.reg [
    ⟨some 40, .load 32 (.tmp 8), none⟩,
    ⟨none, .store 32 (.tmp 6) (.tmp 40), none⟩,
    ⟨some 7, .assign (.const (.bool true)), none⟩])
  .ret)))))
theorem hd18 : Try.f18.body.map dec = some c18 := by kernel_rfl
theorem e18 {R : AV → AH → Prop} {h : AH} (x0 x1 x2 : AV) (H : h.wf → AI Try.prog c18 (RetQ Try.prog [.cell 6 32, .tmp 7] R) [x0, x1, x2, un, un, un, un, un, un, un, un, un, un, un, un, un, un, un, un, un, un, un, un, un, un, un, un, un, un, un, un, un, un, un, un, un, un, un, un, un, un] h) : AC Try.prog 18 [x0, x1, x2] h R :=
  AC_of' (rs := [.cell 6 32, .tmp 7]) Try.func18 (by kernel_rfl) hd18 Try.ntmps18 rfl H

/-- laws.toMatrix -/
def c19 : IC :=
  (.seq
  (.reg [
    ⟨some 1, .box 31 (.tmp 0), none⟩,
    ⟨some 2, .alloc 32, none⟩])
  (.seq
  (.reg [
    ⟨some 3, .alloc 32, none⟩])
  (.seq
  (.reg [
    ⟨some 4, .fieldAddr 31 (.tmp 1) 0, none⟩,
    ⟨some 5, .load 3 (.tmp 4), none⟩,
    ⟨some 6, .fieldAddr 32 (.tmp 3) 0, none⟩,
    ⟨none, .store 3 (.tmp 6) (.tmp 5), none⟩])
  (.seq
  (.reg [
    ⟨some 7, .fieldAddr 31 (.tmp 1) 1, none⟩,
    ⟨some 8, .load 3 (.tmp 7), none⟩,
    ⟨some 9, .fieldAddr 32 (.tmp 3) 1, none⟩,
    ⟨none, .store 3 (.tmp 9) (.tmp 8), none⟩])
  (.seq
  (.reg [
    ⟨some 10, .fieldAddr 31 (.tmp 1) 2, none⟩,
    ⟨some 11, .load 3 (.tmp 10), none⟩,
    ⟨some 12, .fieldAddr 32 (.tmp 3) 2, none⟩,
    ⟨none, .store 3 (.tmp 12) (.tmp 11), none⟩])
  (.seq
  (.reg [
    ⟨some 13, .fieldAddr 31 (.tmp 1) 3, none⟩,
    ⟨some 14, .load 3 (.tmp 13), none⟩,
    ⟨some 15, .fieldAddr 32 (.tmp 3) 3, none⟩,
    ⟨none, .store 3 (.tmp 15) (.tmp 14), none⟩])
  (.seq
  (.reg [
    ⟨some 16, .load 32 (.tmp 3), none⟩,
    ⟨none, .store 32 (.tmp 2) (.tmp 16), none⟩])
  .ret)))))))
theorem hd19 : Try.f19.body.map dec = some c19 := by kernel_rfl
theorem e19 {R : AV → AH → Prop} {h : AH} (x0 : AV) (H : h.wf → AI Try.prog c19 (RetQ Try.prog [.cell 2 32] R) [x0, un, un, un, un, un, un, un, un, un, un, un, un, un, un, un, un] h) : AC Try.prog 19 [x0] h R :=
  AC_of' (rs := [.cell 2 32]) Try.func19 (by kernel_rfl) hd19 Try.ntmps19 rfl H

/-- slices.IndexFunc[[]int,int] -/
def c78 : IC :=
  (.seq
  (.reg [
    ⟨some 4, .assign (.const (.int .i64 0)), none⟩])
  (.seq
  (.seq
  (.reg [
    ⟨some 6, .move (.tmp 0), none⟩,
    ⟨some 7, .call { callee := .builtin .len, args := #[.tmp 6], argTypes := #[25] }, none⟩,
    ⟨some 8, .move (.const (.int .i64 0)), none⟩])
  (.block 0
  (.loop
    (.seq
    (.reg [
      ⟨some 9, .binOp .lss 3 (.tmp 8) (.tmp 7) 3, none⟩])
    (.seq
    (.cond (.tmp 9)
      .skip
      (.exit 0))
    (.seq
    (.block 1
    (.seq
    (.reg [
      ⟨some 10, .move (.tmp 8), none⟩,
      ⟨some 5, .assign (.tmp 10), none⟩])
    (.seq
    (.reg [
      ⟨some 11, .move (.tmp 1), none⟩,
      ⟨some 12, .move (.tmp 0), none⟩,
      ⟨some 13, .move (.tmp 5), none⟩,
      ⟨some 14, .indexAddr 25 (.tmp 12) (.tmp 13), none⟩,
      ⟨some 15, .load 3 (.tmp 14), none⟩,
      ⟨some 16, .call { callee := .value (.tmp 11), args := #[.tmp 15], argTypes := #[3] }, none⟩])
    (.cond (.tmp 16)
      (.seq
      (.reg [
        ⟨some 17, .move (.tmp 5), none⟩,
        ⟨some 4, .assign (.tmp 17), none⟩])
      .ret)
      .skip))))
    (.reg [
      ⟨some 18, .binOp .add 3 (.tmp 8) (.const (.int .i64 1)) 3, none⟩,
      ⟨some 8, .move (.tmp 18), none⟩])))))))
  (.seq
  (.reg [
    ⟨some 4, .assign (.const (.int .i64 (-1))), none⟩])
  .ret)))
theorem hd78 : Try.f78.body.map dec = some c78 := by kernel_rfl
theorem e78 {R : AV → AH → Prop} {h : AH} (x0 x1 : AV) (H : h.wf → AI Try.prog c78 (RetQ Try.prog [.tmp 4] R) [x0, x1, un, un, un, un, un, un, un, un, un, un, un, un, un, un, un, un, un] h) : AC Try.prog 78 [x0, x1] h R :=
  AC_of' (rs := [.tmp 4]) Try.func78 (by kernel_rfl) hd78 Try.ntmps78 rfl H

/-- slices.ContainsFunc[[]int,int] -/
def c46 : IC :=
  (.seq
  (.reg [
    ⟨some 4, .assign (.const (.bool false)), none⟩])
  (.seq
  (.reg [
    ⟨some 5, .move (.tmp 0), none⟩,
    ⟨some 6, .move (.tmp 1), none⟩,
    ⟨some 7, .call { callee := .value (.func 78), args := #[.tmp 5, .tmp 6], argTypes := #[25, 41] }, none⟩,
    ⟨some 8, .binOp .geq 3 (.tmp 7) (.const (.int .i64 0)) 3, none⟩,
    ⟨some 4, .assign (.tmp 8), none⟩])
  .ret))
theorem hd46 : Try.f46.body.map dec = some c46 := by kernel_rfl
theorem e46 {R : AV → AH → Prop} {h : AH} (x0 x1 : AV) (H : h.wf → AI Try.prog c46 (RetQ Try.prog [.tmp 4] R) [x0, x1, un, un, un, un, un, un, un] h) : AC Try.prog 46 [x0, x1] h R :=
  AC_of' (rs := [.tmp 4]) Try.func46 (by kernel_rfl) hd46 Try.ntmps46 rfl H

/-- impl.in -/
def c49 : IC :=
  (.seq
  (.reg [
    ⟨some 6, .assign (.const (.bool false)), none⟩])
  (.seq
  (.reg [
    ⟨some 7, .move (.tmp 0), none⟩,
    ⟨some 8, .move (.tmp 1), none⟩,
    ⟨some 9, .binOp .geq 3 (.tmp 7) (.tmp 8) 3, none⟩,
    ⟨some 10, .move (.tmp 9), none⟩,
    ⟨some 11, .move (.tmp 0), some (10, true)⟩,
    ⟨some 12, .move (.tmp 2), some (10, true)⟩,
    ⟨some 13, .binOp .leq 3 (.tmp 11) (.tmp 12) 3, some (10, true)⟩,
    ⟨some 14, .pick (.tmp 10) (.tmp 13) (.const (.bool false)), none⟩,
    ⟨some 6, .assign (.tmp 14), none⟩])
  .ret))
theorem hd49 : Try.f49.body.map dec = some c49 := by kernel_rfl
theorem e49 {R : AV → AH → Prop} {h : AH} (x0 x1 x2 : AV) (H : h.wf → AI Try.prog c49 (RetQ Try.prog [.tmp 6] R) [x0, x1, x2, un, un, un, un, un, un, un, un, un, un, un, un] h) : AC Try.prog 49 [x0, x1, x2] h R :=
  AC_of' (rs := [.tmp 6]) Try.func49 (by kernel_rfl) hd49 Try.ntmps49 rfl H

/-- impl.modulusOk -/
def c76 : IC :=
  (.seq
  (.reg [
    ⟨some 2, .assign (.const (.bool false)), none⟩])
  (.seq
  (.reg [
    ⟨some 3, .move (.tmp 0), none⟩,
    ⟨some 4, .call { callee := .value (.func 49), args := #[.tmp 3, .const (.int .i64 2), .const (.int .i64 10000)], argTypes := #[3, 3, 3] }, none⟩,
    ⟨some 2, .assign (.tmp 4), none⟩])
  .ret))
theorem hd76 : Try.f76.body.map dec = some c76 := by kernel_rfl
theorem e76 {R : AV → AH → Prop} {h : AH} (x0 : AV) (H : h.wf → AI Try.prog c76 (RetQ Try.prog [.tmp 2] R) [x0, un, un, un, un] h) : AC Try.prog 76 [x0] h R :=
  AC_of' (rs := [.tmp 2]) Try.func76 (by kernel_rfl) hd76 Try.ntmps76 rfl H

/-- impl.residuesOk$1 -/
def c77 : IC :=
  (.seq
  (.reg [
    ⟨some 3, .assign (.const (.bool false)), none⟩])
  (.seq
  (.reg [
    ⟨some 4, .move (.tmp 0), none⟩,
    ⟨some 5, .load 3 (.tmp 1), none⟩,
    ⟨some 6, .binOp .sub 3 (.tmp 5) (.const (.int .i64 1)) 3, none⟩,
    ⟨some 7, .call { callee := .value (.func 49), args := #[.tmp 4, .const (.int .i64 0), .tmp 6], argTypes := #[3, 3, 3] }, none⟩,
    ⟨some 8, .unOp .not 4 (.tmp 7), none⟩,
    ⟨some 3, .assign (.tmp 8), none⟩])
  .ret))
theorem hd77 : Try.f77.body.map dec = some c77 := by kernel_rfl
theorem e77 {R : AV → AH → Prop} {h : AH} (x0 x1 : AV) (H : h.wf → AI Try.prog c77 (RetQ Try.prog [.tmp 3] R) [x0, x1, un, un, un, un, un, un, un] h) : AC Try.prog 77 [x0, x1] h R :=
  AC_of' (rs := [.tmp 3]) Try.func77 (by kernel_rfl) hd77 Try.ntmps77 rfl H

/-- impl.residuesOk -/
def c43 : IC :=
  (.seq
  (.reg [
    ⟨some 3, .box 3 (.tmp 1), none⟩,
    ⟨some 4, .assign (.const (.bool false)), none⟩])
  (.seq
  (.reg [
    ⟨some 5, .load 3 (.tmp 3), none⟩,
    ⟨some 6, .call { callee := .value (.func 76), args := #[.tmp 5], argTypes := #[3] }, none⟩,
    ⟨some 7, .move (.tmp 6), none⟩,
    ⟨some 8, .move (.tmp 0), some (7, true)⟩,
    ⟨some 9, .makeFunc (.func 77) #[] #[.tmp 3], some (7, true)⟩,
    ⟨some 10, .call { callee := .value (.func 46), args := #[.tmp 8, .tmp 9], argTypes := #[25, 41] }, some (7, true)⟩,
    ⟨some 11, .unOp .not 4 (.tmp 10), some (7, true)⟩,
    ⟨some 12, .pick (.tmp 7) (.tmp 11) (.const (.bool false)), none⟩,
    ⟨some 4, .assign (.tmp 12), none⟩])
  .ret))
theorem hd43 : Try.f43.body.map dec = some c43 := by kernel_rfl
theorem e43 {R : AV → AH → Prop} {h : AH} (x0 x1 : AV) (H : h.wf → AI Try.prog c43 (RetQ Try.prog [.tmp 4] R) [x0, x1, un, un, un, un, un, un, un, un, un, un, un] h) : AC Try.prog 43 [x0, x1] h R :=
  AC_of' (rs := [.tmp 4]) Try.func43 (by kernel_rfl) hd43 Try.ntmps43 rfl H

/-- impl.exponentOk -/
def c48 : IC :=
  (.seq
  (.reg [
    ⟨some 2, .assign (.const (.bool false)), none⟩])
  (.seq
  (.reg [
    ⟨some 3, .move (.tmp 0), none⟩,
    ⟨some 4, .call { callee := .value (.func 49), args := #[.tmp 3, .const (.int .i64 0), .const (.int .i64 1000000)], argTypes := #[3, 3, 3] }, none⟩,
    ⟨some 2, .assign (.tmp 4), none⟩])
  .ret))
theorem hd48 : Try.f48.body.map dec = some c48 := by kernel_rfl
theorem e48 {R : AV → AH → Prop} {h : AH} (x0 : AV) (H : h.wf → AI Try.prog c48 (RetQ Try.prog [.tmp 2] R) [x0, un, un, un, un] h) : AC Try.prog 48 [x0] h R :=
  AC_of' (rs := [.tmp 2]) Try.func48 (by kernel_rfl) hd48 Try.ntmps48 rfl H

/-- (impl.Matrix).residues -/
def c55 : IC :=
  (.seq
  (.reg [
    ⟨some 1, .box 32 (.tmp 0), none⟩,
    ⟨some 2, .assign (.const (.slice none 0 0)), none⟩])
  (.seq
  (.reg [
    ⟨some 3, .fieldAddr 32 (.tmp 1) 0, none⟩,
    ⟨some 4, .load 3 (.tmp 3), none⟩,
    ⟨some 5, .fieldAddr 32 (.tmp 1) 1, none⟩,
    ⟨some 6, .load 3 (.tmp 5), none⟩,
    ⟨some 7, .fieldAddr 32 (.tmp 1) 2, none⟩,
    ⟨some 8, .load 3 (.tmp 7), none⟩,
    ⟨some 9, .fieldAddr 32 (.tmp 1) 3, none⟩,
    ⟨some 10, .load 3 (.tmp 9), none⟩,
    ⟨some 11, .buildSlice 25 4 #[(0, .tmp 4), (1, .tmp 6), (2, .tmp 8), (3, .tmp 10)], none⟩,
    ⟨some 2, .assign (.tmp 11), none⟩])
  .ret))
theorem hd55 : Try.f55.body.map dec = some c55 := by kernel_rfl
theorem e55 {R : AV → AH → Prop} {h : AH} (x0 : AV) (H : h.wf → AI Try.prog c55 (RetQ Try.prog [.tmp 2] R) [x0, un, un, un, un, un, un, un, un, un, un, un] h) : AC Try.prog 55 [x0] h R :=
  AC_of' (rs := [.tmp 2]) Try.func55 (by kernel_rfl) hd55 Try.ntmps55 rfl H

/-- impl.power[impl.Matrix] -/
def c56 : IC :=
  (.seq
  (.reg [
    ⟨some 4, .box 32 (.tmp 0), none⟩,
    ⟨some 5, .box 32 (.tmp 1), none⟩,
    ⟨some 8, .alloc 32, none⟩])
  (.seq
  (.block 0
  (.loop
    (.seq
    (.seq
    (.reg [
      ⟨some 9, .move (.tmp 2), none⟩,
      ⟨some 10, .binOp .gtr 3 (.tmp 9) (.const (.int .i64 0)) 3, none⟩])
    (.cond (.tmp 10)
      .skip
      (.exit 0)))
    (.seq
    (.block 1
    (.seq
    (.seq
    (.reg [
      ⟨some 13, .move (.tmp 2), none⟩,
      ⟨some 14, .binOp .rem 3 (.tmp 13) (.const (.int .i64 2)) 3, none⟩,
      ⟨some 15, .binOp .eql 3 (.tmp 14) (.const (.int .i64 1)) 3, none⟩])
    (.cond (.tmp 15)
      (.reg [
        ⟨some 16, .move (.tmp 3), none⟩,
        ⟨some 17, .load 32 (.tmp 5), none⟩,
        ⟨some 18, .load 32 (.tmp 4), none⟩,
        ⟨some 19, .call { callee := .value (.tmp 16), args := #[.tmp 17, .tmp 18], argTypes := #[32, 32] }, none⟩,
        ⟨none, .store 32 (.tmp 5) (.tmp 19), none⟩])
      .skip))
    (.reg [
      ⟨some 20, .move (.tmp 3), none⟩,
      ⟨some 21, .load 32 (.tmp 4), none⟩,
      ⟨some 22, .load 32 (.tmp 4), none⟩,
      ⟨some 23, .call { callee := .value (.tmp 20), args := #[.tmp 21, .tmp 22], argTypes := #[32, 32] }, none⟩,
      ⟨none, .store 32 (.tmp 4) (.tmp 23), none⟩])))
    (.reg [
      ⟨some 11, .move (.tmp 2), none⟩,
      ⟨some 12, .binOp .quo 3 (.tmp 11) (.const (.int .i64 2)) 3, none⟩,
      ⟨some 2, .assign (.tmp 12), none⟩])))))
  (.seq
  (.reg [
    ⟨some 24, .load 32 (.tmp 5), none⟩,
    ⟨none, .store 32 (.tmp 8) (.tmp 24), none⟩])
  .ret)))
theorem hd56 : Try.f56.body.map dec = some c56 := by kernel_rfl
theorem e56 {R : AV → AH → Prop} {h : AH} (x0 x1 x2 x3 : AV) (H : h.wf → AI Try.prog c56 (RetQ Try.prog [.cell 8 32] R) [x0, x1, x2, x3, un, un, un, un, un, un, un, un, un, un, un, un, un, un, un, un, un, un, un, un, un] h) : AC Try.prog 56 [x0, x1, x2, x3] h R :=
  AC_of' (rs := [.cell 8 32]) Try.func56 (by kernel_rfl) hd56 Try.ntmps56 rfl H

noncomputable def rg79_0 : Array Oper := rawAt Try.f79 0
-- NO ORDER
/-- impl.matrixTimes$1 -/
noncomputable def c79 : IC :=
  (.seq
  (.reg [
    ⟨some 3, .box 32 (.tmp 0), none⟩,
    ⟨some 4, .box 32 (.tmp 1), none⟩,
    ⟨some 5, .alloc 32, none⟩])
  (.seq
  (.raw (.region 1 rg79_0 true))
  .ret))
theorem hd79 : Try.f79.body.map dec = some c79 := by kernel_rfl
theorem e79 {R : AV → AH → Prop} {h : AH} (x0 x1 x2 : AV) (H : h.wf → AI Try.prog c79 (RetQ Try.prog [.cell 5 32] R) [x0, x1, x2, un, un, un, un, un, un, un, un, un, un, un, un, un, un, un, un, un, un, un, un, un, un, un, un, un, un, un, un, un, un, un, un, un, un, un, un, un, un, un, un, un, un, un, un, un, un, un, un, un, un, un, un, un, un, un, un] h) : AC Try.prog 79 [x0, x1, x2] h R :=
  AC_of' (rs := [.cell 5 32]) Try.func79 (by kernel_rfl) hd79 Try.ntmps79 rfl H
theorem dz79_0 {h0 : AH} {L : List It} {Q : Exit → List AV → List It → Prop} {a : List AV} {id : Nat} (H : LX Try.prog [53] h0 L L [(⟨some 6, .fieldAddr 32 (.tmp 3) 0, none⟩, .p),
  (⟨some 7, .load 3 (.tmp 6), none⟩, .l),
  (⟨some 8, .fieldAddr 32 (.tmp 4) 0, none⟩, .p),
  (⟨some 9, .load 3 (.tmp 8), none⟩, .l),
  (⟨some 10, .binOp .mul 3 (.tmp 7) (.tmp 9) 3, none⟩, .p),
  (⟨some 11, .fieldAddr 32 (.tmp 3) 1, none⟩, .p),
  (⟨some 12, .load 3 (.tmp 11), none⟩, .l),
  (⟨some 13, .fieldAddr 32 (.tmp 4) 2, none⟩, .p),
  (⟨some 14, .load 3 (.tmp 13), none⟩, .l),
  (⟨some 15, .binOp .mul 3 (.tmp 12) (.tmp 14) 3, none⟩, .p),
  (⟨some 16, .binOp .add 3 (.tmp 10) (.tmp 15) 3, none⟩, .p),
  (⟨some 17, .load 3 (.tmp 2), none⟩, .l),
  (⟨some 18, .binOp .rem 3 (.tmp 16) (.tmp 17) 3, none⟩, .p),
  (⟨some 19, .fieldAddr 32 (.tmp 3) 0, none⟩, .p),
  (⟨some 20, .load 3 (.tmp 19), none⟩, .l),
  (⟨some 21, .fieldAddr 32 (.tmp 4) 1, none⟩, .p),
  (⟨some 22, .load 3 (.tmp 21), none⟩, .l),
  (⟨some 23, .binOp .mul 3 (.tmp 20) (.tmp 22) 3, none⟩, .p),
  (⟨some 24, .fieldAddr 32 (.tmp 3) 1, none⟩, .p),
  (⟨some 25, .load 3 (.tmp 24), none⟩, .l),
  (⟨some 26, .fieldAddr 32 (.tmp 4) 3, none⟩, .p),
  (⟨some 27, .load 3 (.tmp 26), none⟩, .l),
  (⟨some 28, .binOp .mul 3 (.tmp 25) (.tmp 27) 3, none⟩, .p),
  (⟨some 29, .binOp .add 3 (.tmp 23) (.tmp 28) 3, none⟩, .p),
  (⟨some 30, .load 3 (.tmp 2), none⟩, .l),
  (⟨some 31, .binOp .rem 3 (.tmp 29) (.tmp 30) 3, none⟩, .p),
  (⟨some 32, .fieldAddr 32 (.tmp 3) 2, none⟩, .p),
  (⟨some 33, .load 3 (.tmp 32), none⟩, .l),
  (⟨some 34, .fieldAddr 32 (.tmp 4) 0, none⟩, .p),
  (⟨some 35, .load 3 (.tmp 34), none⟩, .l),
  (⟨some 36, .binOp .mul 3 (.tmp 33) (.tmp 35) 3, none⟩, .p),
  (⟨some 37, .fieldAddr 32 (.tmp 3) 3, none⟩, .p),
  (⟨some 38, .load 3 (.tmp 37), none⟩, .l),
  (⟨some 39, .fieldAddr 32 (.tmp 4) 2, none⟩, .p),
  (⟨some 40, .load 3 (.tmp 39), none⟩, .l),
  (⟨some 41, .binOp .mul 3 (.tmp 38) (.tmp 40) 3, none⟩, .p),
  (⟨some 42, .binOp .add 3 (.tmp 36) (.tmp 41) 3, none⟩, .p),
  (⟨some 43, .load 3 (.tmp 2), none⟩, .l),
  (⟨some 44, .binOp .rem 3 (.tmp 42) (.tmp 43) 3, none⟩, .p),
  (⟨some 45, .fieldAddr 32 (.tmp 3) 2, none⟩, .p),
  (⟨some 46, .load 3 (.tmp 45), none⟩, .l),
  (⟨some 47, .fieldAddr 32 (.tmp 4) 1, none⟩, .p),
  (⟨some 48, .load 3 (.tmp 47), none⟩, .l),
  (⟨some 49, .binOp .mul 3 (.tmp 46) (.tmp 48) 3, none⟩, .p),
  (⟨some 50, .fieldAddr 32 (.tmp 3) 3, none⟩, .p),
  (⟨some 51, .load 3 (.tmp 50), none⟩, .l),
  (⟨some 52, .fieldAddr 32 (.tmp 4) 3, none⟩, .p),
  (⟨some 53, .load 3 (.tmp 52), none⟩, .l),
  (⟨some 54, .binOp .mul 3 (.tmp 51) (.tmp 53) 3, none⟩, .p),
  (⟨some 55, .binOp .add 3 (.tmp 49) (.tmp 54) 3, none⟩, .p),
  (⟨some 56, .load 3 (.tmp 2), none⟩, .l),
  (⟨some 57, .binOp .rem 3 (.tmp 55) (.tmp 56) 3, none⟩, .p),
  (⟨some 58, .build 32 #[(0, .tmp 18), (1, .tmp 31), (2, .tmp 44), (3, .tmp 57)], none⟩, .p),
  (⟨none, .store 32 (.tmp 5) (.tmp 58), none⟩, .f)] Q a) : LI Try.prog h0 L (.raw (.region id rg79_0 true)) Q a :=
  LI_draw [(0, .p), (1, .l), (2, .p), (3, .l), (4, .p), (5, .p), (6, .l), (7, .p), (8, .l), (9, .p), (10, .p), (11, .l), (12, .p), (13, .p), (14, .l), (15, .p), (16, .l), (17, .p), (18, .p), (19, .l), (20, .p), (21, .l), (22, .p), (23, .p), (24, .l), (25, .p), (26, .p), (27, .l), (28, .p), (29, .l), (30, .p), (31, .p), (32, .l), (33, .p), (34, .l), (35, .p), (36, .p), (37, .l), (38, .p), (39, .p), (40, .l), (41, .p), (42, .l), (43, .p), (44, .p), (45, .l), (46, .p), (47, .l), (48, .p), (49, .p), (50, .l), (51, .p), (52, .p), (53, .f)] [53] (by kernel_rfl) (by kernel_rfl) (by kernel_rfl) H

/-- impl.matrixTimes -/
def c57 : IC :=
  (.seq
  (.reg [
    ⟨some 1, .box 3 (.tmp 0), none⟩,
    ⟨some 2, .assign (.const .nilFunc), none⟩])
  (.seq
  (.reg [
    ⟨some 3, .makeFunc (.func 79) #[] #[.tmp 1], none⟩,
    ⟨some 2, .assign (.tmp 3), none⟩])
  .ret))
theorem hd57 : Try.f57.body.map dec = some c57 := by kernel_rfl
theorem e57 {R : AV → AH → Prop} {h : AH} (x0 : AV) (H : h.wf → AI Try.prog c57 (RetQ Try.prog [.tmp 2] R) [x0, un, un, un] h) : AC Try.prog 57 [x0] h R :=
  AC_of' (rs := [.tmp 2]) Try.func57 (by kernel_rfl) hd57 Try.ntmps57 rfl H

noncomputable def rg20_0 : Array Oper := rawAt Try.f20 0
/-- impl.MatrixPower -/
noncomputable def c20 : IC :=
  (.seq
  (.reg [
    ⟨some 3, .box 32 (.tmp 0), none⟩,
    ⟨some 6, .alloc 32, none⟩,
    ⟨some 7, .assign (.const (.bool false)), none⟩])
  (.seq
  (.seq
  (.reg [
    ⟨some 8, .load 32 (.tmp 3), none⟩,
    ⟨some 9, .call { callee := .value (.func 55), args := #[.tmp 8], argTypes := #[32] }, none⟩,
    ⟨some 10, .move (.tmp 2), none⟩,
    ⟨some 11, .call { callee := .value (.func 43), args := #[.tmp 9, .tmp 10], argTypes := #[25, 3] }, none⟩,
    ⟨some 12, .unOp .not 4 (.tmp 11), none⟩,
    ⟨some 13, .move (.tmp 12), none⟩,
    ⟨some 14, .move (.tmp 1), some (13, false)⟩,
    ⟨some 15, .call { callee := .value (.func 48), args := #[.tmp 14], argTypes := #[3] }, some (13, false)⟩,
    ⟨some 16, .unOp .not 4 (.tmp 15), some (13, false)⟩,
    ⟨some 17, .pick (.tmp 13) (.const (.bool true)) (.tmp 16), none⟩])
  (.cond (.tmp 17)
    (.seq
    (.reg [
      ⟨some 18, .build 32 #[], none⟩,
      ⟨none, .store 32 (.tmp 6) (.tmp 18), none⟩,
      ⟨some 7, .assign (.const (.bool false)), none⟩])
    .ret)
    .skip))
  (.seq
  (.raw (.region 3 rg20_0 true))
  .ret)))
theorem hd20 : Try.f20.body.map dec = some c20 := by kernel_rfl
theorem e20 {R : AV → AH → Prop} {h : AH} (x0 x1 x2 : AV) (H : h.wf → AI Try.prog c20 (RetQ Try.prog [.cell 6 32, .tmp 7] R) [x0, x1, x2, un, un, un, un, un, un, un, un, un, un, un, un, un, un, un, un, un, un, un, un, un, un] h) : AC Try.prog 20 [x0, x1, x2] h R :=
  AC_of' (rs := [.cell 6 32, .tmp 7]) Try.func20 (by kernel_rfl) hd20 Try.ntmps20 rfl H
theorem dz20_0 {h0 : AH} {L : List It} {Q : Exit → List AV → List It → Prop} {a : List AV} {id : Nat} (H : LX Try.prog [6] h0 L L [(⟨some 19, .load 32 (.tmp 3), none⟩, .l),
  (⟨some 20, .build 32 #[(0, .const (.int .i64 1)), (1, .const (.int .i64 0)), (2, .const (.int .i64 0)), (3, .const (.int .i64 1))], none⟩, .p),
  (⟨some 21, .move (.tmp 1), none⟩, .p),
  (⟨some 22, .move (.tmp 2), none⟩, .p),
  (⟨some 23, .call { callee := .value (.func 57), args := #[.tmp 22], argTypes := #[3] }, none⟩, .e),
  (⟨some 24, .call { callee := .value (.func 56), args := #[.tmp 19, .tmp 20, .tmp 21, .tmp 23], argTypes := #[32, 32, 3, 71] }, none⟩, .e),
  (⟨none, .store 32 (.tmp 6) (.tmp 24), none⟩, .f),
  (⟨some 7, .assign (.const (.bool true)), none⟩, .p)] Q a) : LI Try.prog h0 L (.raw (.region id rg20_0 true)) Q a :=
  LI_draw [(0, .l), (1, .p), (2, .p), (3, .p), (4, .e), (5, .e), (6, .f), (7, .p)] [6] (by kernel_rfl) (by kernel_rfl) (by kernel_rfl) H
theorem dr20_0 (m : Nat) {Q : Exit → List AV → AH → Prop} {a : List AV} {h : AH} {id : Nat} (H : AX Try.prog m h [(⟨some 19, .load 32 (.tmp 3), none⟩, true),
  (⟨some 20, .build 32 #[(0, .const (.int .i64 1)), (1, .const (.int .i64 0)), (2, .const (.int .i64 0)), (3, .const (.int .i64 1))], none⟩, true),
  (⟨some 21, .move (.tmp 1), none⟩, true),
  (⟨some 22, .move (.tmp 2), none⟩, true),
  (⟨some 23, .call { callee := .value (.func 57), args := #[.tmp 22], argTypes := #[3] }, none⟩, false),
  (⟨some 24, .call { callee := .value (.func 56), args := #[.tmp 19, .tmp 20, .tmp 21, .tmp 23], argTypes := #[32, 32, 3, 71] }, none⟩, false),
  (⟨none, .store 32 (.tmp 6) (.tmp 24), none⟩, false),
  (⟨some 7, .assign (.const (.bool true)), none⟩, true)] (fun a' h' => Q .normal a' h') a h) : AI Try.prog (.raw (.region id rg20_0 true)) Q a h :=
  AI_draw [(0, true), (1, true), (2, true), (3, true), (4, false), (5, false), (6, false), (7, true)] m (by kernel_rfl) (by kernel_rfl) (by kernel_rfl) H

/-- laws.eqMatrix -/
def c21 : IC :=
  (.seq
  (.reg [
    ⟨some 2, .box 32 (.tmp 0), none⟩,
    ⟨some 3, .box 32 (.tmp 1), none⟩,
    ⟨some 4, .assign (.const (.bool false)), none⟩])
  (.seq
  (.seq
  (.reg [
    ⟨some 5, .fieldAddr 32 (.tmp 2) 0, none⟩,
    ⟨some 6, .load 3 (.tmp 5), none⟩,
    ⟨some 7, .fieldAddr 32 (.tmp 3) 0, none⟩,
    ⟨some 8, .load 3 (.tmp 7), none⟩,
    ⟨some 9, .binOp .neq 3 (.tmp 6) (.tmp 8) 3, none⟩])
  (.cond (.tmp 9)
    (.seq
    (.reg [
      ⟨some 4, .assign (.const (.bool false)), none⟩])
    .ret)
    .skip))
  (.seq
  (.seq
  (.reg [
    ⟨some 10, .fieldAddr 32 (.tmp 2) 1, none⟩,
    ⟨some 11, .load 3 (.tmp 10), none⟩,
    ⟨some 12, .fieldAddr 32 (.tmp 3) 1, none⟩,
    ⟨some 13, .load 3 (.tmp 12), none⟩,
    ⟨some 14, .binOp .neq 3 (.tmp 11) (.tmp 13) 3, none⟩])
  (.cond (.tmp 14)
    (.seq
    (.reg [
      ⟨some 4, .assign (.const (.bool false)), none⟩])
    .ret)
    .skip))
  (.seq
  (.seq
  (.reg [
    ⟨some 15, .fieldAddr 32 (.tmp 2) 2, none⟩,
    ⟨some 16, .load 3 (.tmp 15), none⟩,
    ⟨some 17, .fieldAddr 32 (.tmp 3) 2, none⟩,
    ⟨some 18, .load 3 (.tmp 17), none⟩,
    ⟨some 19, .binOp .neq 3 (.tmp 16) (.tmp 18) 3, none⟩])
  (.cond (.tmp 19)
    (.seq
    (.reg [
      ⟨some 4, .assign (.const (.bool false)), none⟩])
    .ret)
    .skip))
  (.seq
  (.seq
  (.reg [
    ⟨some 20, .fieldAddr 32 (.tmp 2) 3, none⟩,
    ⟨some 21, .load 3 (.tmp 20), none⟩,
    ⟨some 22, .fieldAddr 32 (.tmp 3) 3, none⟩,
    ⟨some 23, .load 3 (.tmp 22), none⟩,
    ⟨some 24, .binOp .neq 3 (.tmp 21) (.tmp 23) 3, none⟩])
  (.cond (.tmp 24)
    (.seq
    (.reg [
      ⟨some 4, .assign (.const (.bool false)), none⟩])
    .ret)
    .skip))
  (.seq
  (.reg [
    ⟨some 4, .assign (.const (.bool true)), none⟩])
  .ret))))))
theorem hd21 : Try.f21.body.map dec = some c21 := by kernel_rfl
theorem e21 {R : AV → AH → Prop} {h : AH} (x0 x1 : AV) (H : h.wf → AI Try.prog c21 (RetQ Try.prog [.tmp 4] R) [x0, x1, un, un, un, un, un, un, un, un, un, un, un, un, un, un, un, un, un, un, un, un, un, un, un] h) : AC Try.prog 21 [x0, x1] h R :=
  AC_of' (rs := [.tmp 4]) Try.func21 (by kernel_rfl) hd21 Try.ntmps21 rfl H

/-- laws.FnExactMatrixPower -/
def c5 : IC :=
  (.seq
  (.reg [
    ⟨some 3, .box 31 (.tmp 0), none⟩,
    ⟨some 6, .assign (.const (.bool false)), none⟩])
  (.seq
  (.reg [
    ⟨some 12, .load 31 (.tmp 3), none⟩,
    ⟨some 13, .call { callee := .value (.func 19), args := #[.tmp 12], argTypes := #[31] }, none⟩,
    ⟨some 14, .move (.tmp 1), none⟩,
    ⟨some 15, .move (.tmp 2), none⟩,
    ⟨some 16, .call { callee := .value (.func 18), args := #[.tmp 13, .tmp 14, .tmp 15], argTypes := #[32, 3, 3] }, none⟩,
    ⟨some 11, .move (.tmp 16), none⟩,
    ⟨some 17, .extract (.tmp 11) 0, none⟩,
    ⟨some 18, .extract (.tmp 11) 1, none⟩,
    ⟨some 7, .alloc 32, none⟩,
    ⟨none, .store 32 (.tmp 7) (.tmp 17), none⟩,
    ⟨some 8, .assign (.tmp 18), none⟩])
  (.seq
  (.reg [
    ⟨some 20, .load 31 (.tmp 3), none⟩,
    ⟨some 21, .call { callee := .value (.func 19), args := #[.tmp 20], argTypes := #[31] }, none⟩,
    ⟨some 22, .move (.tmp 1), none⟩,
    ⟨some 23, .move (.tmp 2), none⟩,
    ⟨some 24, .call { callee := .value (.func 20), args := #[.tmp 21, .tmp 22, .tmp 23], argTypes := #[32, 3, 3] }, none⟩,
    ⟨some 19, .move (.tmp 24), none⟩,
    ⟨some 25, .extract (.tmp 19) 0, none⟩,
    ⟨some 26, .extract (.tmp 19) 1, none⟩,
    ⟨some 9, .alloc 32, none⟩,
    ⟨none, .store 32 (.tmp 9) (.tmp 25), none⟩,
    ⟨some 10, .assign (.tmp 26), none⟩])
  (.seq
  (.seq
  (.reg [
    ⟨some 27, .load 32 (.tmp 9), none⟩,
    ⟨some 28, .load 32 (.tmp 7), none⟩,
    ⟨some 29, .call { callee := .value (.func 21), args := #[.tmp 27, .tmp 28], argTypes := #[32, 32] }, none⟩,
    ⟨some 30, .unOp .not 4 (.tmp 29), none⟩,
    ⟨some 31, .move (.tmp 30), none⟩,
    ⟨some 32, .move (.tmp 10), some (31, false)⟩,
    ⟨some 33, .move (.tmp 8), some (31, false)⟩,
    ⟨some 34, .binOp .neq 4 (.tmp 32) (.tmp 33) 4, some (31, false)⟩,
    ⟨some 35, .pick (.tmp 31) (.const (.bool true)) (.tmp 34), none⟩])
  (.cond (.tmp 35)
    (.seq
    (.reg [
      ⟨some 6, .assign (.const (.bool false)), none⟩])
    .ret)
    .skip))
  (.seq
  (.reg [
    ⟨some 6, .assign (.const (.bool true)), none⟩])
  .ret)))))
theorem hd5 : Try.f5.body.map dec = some c5 := by kernel_rfl
theorem e5 {R : AV → AH → Prop} {h : AH} (x0 x1 x2 : AV) (H : h.wf → AI Try.prog c5 (RetQ Try.prog [.tmp 6] R) [x0, x1, x2, un, un, un, un, un, un, un, un, un, un, un, un, un, un, un, un, un, un, un, un, un, un, un, un, un, un, un, un, un, un, un, un, un] h) : AC Try.prog 5 [x0, x1, x2] h R :=
  AC_of' (rs := [.tmp 6]) Try.func5 (by kernel_rfl) hd5 Try.ntmps5 rfl H

end Go.Proofs.Ytfgealbhigkddaa
