/- The short forms of the functions' code, and facts on types. -/
import Derived.Test.YtdcliofmdlhmaaaProg
import Derived.Test.YtdcliofmdlhmaaaD2
namespace Go.Proofs.Ytdcliofmdlhmaaa
open Go.AL
set_option linter.unusedVariables false
theorem sz0 : szT Try.prog 0 = some 1 := by kernel_rfl
theorem by0 : byT Try.prog 0 = some 0 := by kernel_rfl
theorem ag0 : aggT Try.prog 0 = some false := by kernel_rfl
instance jsz0 : Tsz Try.prog 0 1 := ⟨sz0⟩
instance jby0 : Tby Try.prog 0 0 := ⟨by0⟩
instance jag0 : Tag Try.prog 0 false := ⟨ag0⟩
theorem sz1 : szT Try.prog 1 = some 1 := by kernel_rfl
theorem by1 : byT Try.prog 1 = some 8 := by kernel_rfl
theorem ag1 : aggT Try.prog 1 = some false := by kernel_rfl
instance jsz1 : Tsz Try.prog 1 1 := ⟨sz1⟩
instance jby1 : Tby Try.prog 1 8 := ⟨by1⟩
instance jag1 : Tag Try.prog 1 false := ⟨ag1⟩
theorem ze1 : zeroA Try.prog 1 = some .nf := by kernel_rfl
instance jze1 : Tze Try.prog 1 (.nf) := ⟨ze1⟩
theorem sz2 : szT Try.prog 2 = some 1 := by kernel_rfl
theorem by2 : byT Try.prog 2 = some 8 := by kernel_rfl
theorem ag2 : aggT Try.prog 2 = some false := by kernel_rfl
instance jsz2 : Tsz Try.prog 2 1 := ⟨sz2⟩
instance jby2 : Tby Try.prog 2 8 := ⟨by2⟩
instance jag2 : Tag Try.prog 2 false := ⟨ag2⟩
instance jik2 : Tik Try.prog 2 .i64 := ⟨Try.underlying2⟩
theorem ze2 : zeroA Try.prog 2 = some (.i .i64 0) := by kernel_rfl
instance jze2 : Tze Try.prog 2 (.i .i64 0) := ⟨ze2⟩
theorem sz3 : szT Try.prog 3 = some 1 := by kernel_rfl
theorem by3 : byT Try.prog 3 = some 8 := by kernel_rfl
theorem ag3 : aggT Try.prog 3 = some false := by kernel_rfl
instance jsz3 : Tsz Try.prog 3 1 := ⟨sz3⟩
instance jby3 : Tby Try.prog 3 8 := ⟨by3⟩
instance jag3 : Tag Try.prog 3 false := ⟨ag3⟩
instance jik3 : Tik Try.prog 3 .i64 := ⟨Try.underlying3⟩
theorem ze3 : zeroA Try.prog 3 = some (.i .i64 0) := by kernel_rfl
instance jze3 : Tze Try.prog 3 (.i .i64 0) := ⟨ze3⟩
theorem sz4 : szT Try.prog 4 = some 1 := by kernel_rfl
theorem by4 : byT Try.prog 4 = some 1 := by kernel_rfl
theorem ag4 : aggT Try.prog 4 = some false := by kernel_rfl
instance jsz4 : Tsz Try.prog 4 1 := ⟨sz4⟩
instance jby4 : Tby Try.prog 4 1 := ⟨by4⟩
instance jag4 : Tag Try.prog 4 false := ⟨ag4⟩
instance jbo4 : Tbo Try.prog 4 := ⟨Try.underlying4⟩
theorem ze4 : zeroA Try.prog 4 = some (.b false) := by kernel_rfl
instance jze4 : Tze Try.prog 4 (.b false) := ⟨ze4⟩
theorem sz5 : szT Try.prog 5 = some 1 := by kernel_rfl
theorem by5 : byT Try.prog 5 = some 1 := by kernel_rfl
theorem ag5 : aggT Try.prog 5 = some false := by kernel_rfl
instance jsz5 : Tsz Try.prog 5 1 := ⟨sz5⟩
instance jby5 : Tby Try.prog 5 1 := ⟨by5⟩
instance jag5 : Tag Try.prog 5 false := ⟨ag5⟩
instance jik5 : Tik Try.prog 5 .u8 := ⟨Try.underlying5⟩
theorem ze5 : zeroA Try.prog 5 = some (.i .u8 0) := by kernel_rfl
instance jze5 : Tze Try.prog 5 (.i .u8 0) := ⟨ze5⟩
theorem sz6 : szT Try.prog 6 = some 1 := by kernel_rfl
theorem by6 : byT Try.prog 6 = some 1 := by kernel_rfl
theorem ag6 : aggT Try.prog 6 = some false := by kernel_rfl
instance jsz6 : Tsz Try.prog 6 1 := ⟨sz6⟩
instance jby6 : Tby Try.prog 6 1 := ⟨by6⟩
instance jag6 : Tag Try.prog 6 false := ⟨ag6⟩
instance jik6 : Tik Try.prog 6 .u8 := ⟨Try.underlying6⟩
theorem ze6 : zeroA Try.prog 6 = some (.i .u8 0) := by kernel_rfl
instance jze6 : Tze Try.prog 6 (.i .u8 0) := ⟨ze6⟩
theorem sz24 : szT Try.prog 24 = some 1 := by kernel_rfl
theorem by24 : byT Try.prog 24 = some 8 := by kernel_rfl
theorem ag24 : aggT Try.prog 24 = some false := by kernel_rfl
instance jsz24 : Tsz Try.prog 24 1 := ⟨sz24⟩
instance jby24 : Tby Try.prog 24 8 := ⟨by24⟩
instance jag24 : Tag Try.prog 24 false := ⟨ag24⟩
theorem ze24 : zeroA Try.prog 24 = some .nf := by kernel_rfl
instance jze24 : Tze Try.prog 24 (.nf) := ⟨ze24⟩
theorem sz25 : szT Try.prog 25 = some 1 := by kernel_rfl
theorem by25 : byT Try.prog 25 = some 24 := by kernel_rfl
theorem ag25 : aggT Try.prog 25 = some false := by kernel_rfl
instance jsz25 : Tsz Try.prog 25 1 := ⟨sz25⟩
instance jby25 : Tby Try.prog 25 24 := ⟨by25⟩
instance jag25 : Tag Try.prog 25 false := ⟨ag25⟩
instance jsl25 : Tsl Try.prog 25 5 := ⟨Try.underlying25⟩
theorem ze25 : zeroA Try.prog 25 = some .ns := by kernel_rfl
instance jze25 : Tze Try.prog 25 (.ns) := ⟨ze25⟩
theorem sz28 : szT Try.prog 28 = some 1 := by kernel_rfl
theorem by28 : byT Try.prog 28 = some 24 := by kernel_rfl
theorem ag28 : aggT Try.prog 28 = some false := by kernel_rfl
instance jsz28 : Tsz Try.prog 28 1 := ⟨sz28⟩
instance jby28 : Tby Try.prog 28 24 := ⟨by28⟩
instance jag28 : Tag Try.prog 28 false := ⟨ag28⟩
instance jsl28 : Tsl Try.prog 28 108 := ⟨Try.underlying28⟩
theorem ze28 : zeroA Try.prog 28 = some .ns := by kernel_rfl
instance jze28 : Tze Try.prog 28 (.ns) := ⟨ze28⟩
theorem sz29 : szT Try.prog 29 = some 1 := by kernel_rfl
theorem by29 : byT Try.prog 29 = some 24 := by kernel_rfl
theorem ag29 : aggT Try.prog 29 = some false := by kernel_rfl
instance jsz29 : Tsz Try.prog 29 1 := ⟨sz29⟩
instance jby29 : Tby Try.prog 29 24 := ⟨by29⟩
instance jag29 : Tag Try.prog 29 false := ⟨ag29⟩
instance jsl29 : Tsl Try.prog 29 3 := ⟨Try.underlying29⟩
theorem ze29 : zeroA Try.prog 29 = some .ns := by kernel_rfl
instance jze29 : Tze Try.prog 29 (.ns) := ⟨ze29⟩
theorem sz31 : szT Try.prog 31 = some 3 := by kernel_rfl
theorem by31 : byT Try.prog 31 = some 56 := by kernel_rfl
theorem ag31 : aggT Try.prog 31 = some true := by kernel_rfl
instance jsz31 : Tsz Try.prog 31 3 := ⟨sz31⟩
instance jby31 : Tby Try.prog 31 56 := ⟨by31⟩
instance jag31 : Tag Try.prog 31 true := ⟨ag31⟩
theorem ze31 : zeroA Try.prog 31 = some (.agg [(.i .i64 0), .ns, .ns]) := by kernel_rfl
instance jze31 : Tze Try.prog 31 (.agg [(.i .i64 0), .ns, .ns]) := ⟨ze31⟩
theorem fl31_0 : fldA Try.prog 31 0 = some (0, 1, false) := by kernel_rfl
instance jfl31_0 : Tfl Try.prog 31 0 0 1 false := ⟨fl31_0⟩
theorem fl31_1 : fldA Try.prog 31 1 = some (1, 1, false) := by kernel_rfl
instance jfl31_1 : Tfl Try.prog 31 1 1 1 false := ⟨fl31_1⟩
theorem fl31_2 : fldA Try.prog 31 2 = some (2, 1, false) := by kernel_rfl
instance jfl31_2 : Tfl Try.prog 31 2 2 1 false := ⟨fl31_2⟩
theorem pa31 : plA Try.prog 31 = some [(0, 1), (1, 1), (2, 1)] := by kernel_rfl
instance jpl31 : Tpl Try.prog 31 [(0, 1), (1, 1), (2, 1)] := ⟨pa31⟩
theorem sz39 : szT Try.prog 39 = some 1 := by kernel_rfl
theorem by39 : byT Try.prog 39 = some 24 := by kernel_rfl
theorem ag39 : aggT Try.prog 39 = some false := by kernel_rfl
instance jsz39 : Tsz Try.prog 39 1 := ⟨sz39⟩
instance jby39 : Tby Try.prog 39 24 := ⟨by39⟩
instance jag39 : Tag Try.prog 39 false := ⟨ag39⟩
instance jsl39 : Tsl Try.prog 39 29 := ⟨Try.underlying39⟩
theorem ze39 : zeroA Try.prog 39 = some .ns := by kernel_rfl
instance jze39 : Tze Try.prog 39 (.ns) := ⟨ze39⟩
theorem sz54 : szT Try.prog 54 = some 1 := by kernel_rfl
theorem by54 : byT Try.prog 54 = some 8 := by kernel_rfl
theorem ag54 : aggT Try.prog 54 = some false := by kernel_rfl
instance jsz54 : Tsz Try.prog 54 1 := ⟨sz54⟩
instance jby54 : Tby Try.prog 54 8 := ⟨by54⟩
instance jag54 : Tag Try.prog 54 false := ⟨ag54⟩
theorem ze54 : zeroA Try.prog 54 = some .nf := by kernel_rfl
instance jze54 : Tze Try.prog 54 (.nf) := ⟨ze54⟩
theorem sz66 : szT Try.prog 66 = some 1 := by kernel_rfl
theorem by66 : byT Try.prog 66 = some 8 := by kernel_rfl
theorem ag66 : aggT Try.prog 66 = some false := by kernel_rfl
instance jsz66 : Tsz Try.prog 66 1 := ⟨sz66⟩
instance jby66 : Tby Try.prog 66 8 := ⟨by66⟩
instance jag66 : Tag Try.prog 66 false := ⟨ag66⟩
theorem ze66 : zeroA Try.prog 66 = some .np := by kernel_rfl
instance jze66 : Tze Try.prog 66 (.np) := ⟨ze66⟩
theorem sz67 : szT Try.prog 67 = some 1 := by kernel_rfl
theorem by67 : byT Try.prog 67 = some 8 := by kernel_rfl
theorem ag67 : aggT Try.prog 67 = some false := by kernel_rfl
instance jsz67 : Tsz Try.prog 67 1 := ⟨sz67⟩
instance jby67 : Tby Try.prog 67 8 := ⟨by67⟩
instance jag67 : Tag Try.prog 67 false := ⟨ag67⟩
instance jik67 : Tik Try.prog 67 .u64 := ⟨Try.underlying67⟩
theorem ze67 : zeroA Try.prog 67 = some (.i .u64 0) := by kernel_rfl
instance jze67 : Tze Try.prog 67 (.i .u64 0) := ⟨ze67⟩
theorem sz69 : szT Try.prog 69 = some 3 := by kernel_rfl
theorem by69 : byT Try.prog 69 = some 40 := by kernel_rfl
theorem ag69 : aggT Try.prog 69 = some true := by kernel_rfl
instance jsz69 : Tsz Try.prog 69 3 := ⟨sz69⟩
instance jby69 : Tby Try.prog 69 40 := ⟨by69⟩
instance jag69 : Tag Try.prog 69 true := ⟨ag69⟩
theorem ze69 : zeroA Try.prog 69 = some (.agg [.ns, (.i .i64 0), (.i .u64 0)]) := by kernel_rfl
instance jze69 : Tze Try.prog 69 (.agg [.ns, (.i .i64 0), (.i .u64 0)]) := ⟨ze69⟩
theorem fl69_0 : fldA Try.prog 69 0 = some (0, 1, false) := by kernel_rfl
instance jfl69_0 : Tfl Try.prog 69 0 0 1 false := ⟨fl69_0⟩
theorem fl69_1 : fldA Try.prog 69 1 = some (1, 1, false) := by kernel_rfl
instance jfl69_1 : Tfl Try.prog 69 1 1 1 false := ⟨fl69_1⟩
theorem fl69_2 : fldA Try.prog 69 2 = some (2, 1, false) := by kernel_rfl
instance jfl69_2 : Tfl Try.prog 69 2 2 1 false := ⟨fl69_2⟩
theorem pa69 : plA Try.prog 69 = some [(0, 1), (1, 1), (2, 1)] := by kernel_rfl
instance jpl69 : Tpl Try.prog 69 [(0, 1), (1, 1), (2, 1)] := ⟨pa69⟩
theorem sz72 : szT Try.prog 72 = some 1 := by kernel_rfl
theorem by72 : byT Try.prog 72 = some 8 := by kernel_rfl
theorem ag72 : aggT Try.prog 72 = some false := by kernel_rfl
instance jsz72 : Tsz Try.prog 72 1 := ⟨sz72⟩
instance jby72 : Tby Try.prog 72 8 := ⟨by72⟩
instance jag72 : Tag Try.prog 72 false := ⟨ag72⟩
theorem ze72 : zeroA Try.prog 72 = some .np := by kernel_rfl
instance jze72 : Tze Try.prog 72 (.np) := ⟨ze72⟩
theorem sz87 : szT Try.prog 87 = some 1 := by kernel_rfl
theorem by87 : byT Try.prog 87 = some 8 := by kernel_rfl
theorem ag87 : aggT Try.prog 87 = some false := by kernel_rfl
instance jsz87 : Tsz Try.prog 87 1 := ⟨sz87⟩
instance jby87 : Tby Try.prog 87 8 := ⟨by87⟩
instance jag87 : Tag Try.prog 87 false := ⟨ag87⟩
theorem ze87 : zeroA Try.prog 87 = some .np := by kernel_rfl
instance jze87 : Tze Try.prog 87 (.np) := ⟨ze87⟩
theorem sz97 : szT Try.prog 97 = some 3 := by kernel_rfl
theorem by97 : byT Try.prog 97 = some 56 := by kernel_rfl
theorem ag97 : aggT Try.prog 97 = some true := by kernel_rfl
instance jsz97 : Tsz Try.prog 97 3 := ⟨sz97⟩
instance jby97 : Tby Try.prog 97 56 := ⟨by97⟩
instance jag97 : Tag Try.prog 97 true := ⟨ag97⟩
theorem ze97 : zeroA Try.prog 97 = some (.agg [(.i .i64 0), .ns, .ns]) := by kernel_rfl
instance jze97 : Tze Try.prog 97 (.agg [(.i .i64 0), .ns, .ns]) := ⟨ze97⟩
theorem fl97_0 : fldA Try.prog 97 0 = some (0, 3, true) := by kernel_rfl
instance jfl97_0 : Tfl Try.prog 97 0 0 3 true := ⟨fl97_0⟩
theorem pa97 : plA Try.prog 97 = some [(0, 3)] := by kernel_rfl
instance jpl97 : Tpl Try.prog 97 [(0, 3)] := ⟨pa97⟩
theorem sz108 : szT Try.prog 108 = some 2 := by kernel_rfl
theorem by108 : byT Try.prog 108 = some 16 := by kernel_rfl
theorem ag108 : aggT Try.prog 108 = some true := by kernel_rfl
instance jsz108 : Tsz Try.prog 108 2 := ⟨sz108⟩
instance jby108 : Tby Try.prog 108 16 := ⟨by108⟩
instance jag108 : Tag Try.prog 108 true := ⟨ag108⟩
theorem ze108 : zeroA Try.prog 108 = some (.agg [(.i .i64 0), (.i .i64 0)]) := by kernel_rfl
instance jze108 : Tze Try.prog 108 (.agg [(.i .i64 0), (.i .i64 0)]) := ⟨ze108⟩
theorem fl108_0 : fldA Try.prog 108 0 = some (0, 1, false) := by kernel_rfl
instance jfl108_0 : Tfl Try.prog 108 0 0 1 false := ⟨fl108_0⟩
theorem fl108_1 : fldA Try.prog 108 1 = some (1, 1, false) := by kernel_rfl
instance jfl108_1 : Tfl Try.prog 108 1 1 1 false := ⟨fl108_1⟩
theorem pa108 : plA Try.prog 108 = some [(0, 1), (1, 1)] := by kernel_rfl
instance jpl108 : Tpl Try.prog 108 [(0, 1), (1, 1)] := ⟨pa108⟩

/-- spec.l1In -/
def c100 : IC :=
  (.seq
  (.reg [
    ⟨some 6, .assign (.const (.bool false)), none⟩])
  (.seq
  (.reg [
    ⟨some 7, .move (.tmp 0), none⟩,
    ⟨some 8, .move (.tmp 1), none⟩,
    ⟨some 9, .binOp .geq 3 (.tmp 7) (.tmp 8) 3, none⟩,
    ⟨some 10, .move (.tmp 9), none⟩,
    ⟨some 11, .move (.tmp 0), some (10, true)⟩,
    ⟨some 12, .move (.tmp 2), some (10, true)⟩,
    ⟨some 13, .binOp .leq 3 (.tmp 11) (.tmp 12) 3, some (10, true)⟩,
    ⟨some 14, .pick (.tmp 10) (.tmp 13) (.const (.bool false)), none⟩,
    ⟨some 6, .assign (.tmp 14), none⟩])
  .ret))
theorem hd100 : Try.f100.body.map dec = some c100 := by kernel_rfl
theorem e100 {R : AV → AH → Prop} {h : AH} (x0 x1 x2 : AV) (H : h.wf → AI Try.prog c100 (RetQ Try.prog [.tmp 6] R) [x0, x1, x2, un, un, un, un, un, un, un, un, un, un, un, un] h) : AC Try.prog 100 [x0, x1, x2] h R :=
  AC_of' (rs := [.tmp 6]) Try.func100 (by kernel_rfl) hd100 Try.ntmps100 rfl H

/-- spec.chNumber -/
def c56 : IC :=
  (.seq
  (.reg [
    ⟨some 2, .assign (.const (.bool false)), none⟩])
  (.seq
  (.reg [
    ⟨some 3, .move (.tmp 0), none⟩,
    ⟨some 4, .call { callee := .value (.func 100), args := #[.tmp 3, .const (.int .i64 1), .const (.int .i64 1000000)], argTypes := #[3, 3, 3] }, none⟩,
    ⟨some 2, .assign (.tmp 4), none⟩])
  .ret))
theorem hd56 : Try.f56.body.map dec = some c56 := by kernel_rfl
theorem e56 {R : AV → AH → Prop} {h : AH} (x0 : AV) (H : h.wf → AI Try.prog c56 (RetQ Try.prog [.tmp 2] R) [x0, un, un, un, un] h) : AC Try.prog 56 [x0] h R :=
  AC_of' (rs := [.tmp 2]) Try.func56 (by kernel_rfl) hd56 Try.ntmps56 rfl H

/-- spec.l1Own -/
def c110 : IC :=
  (.seq
  (.reg [
    ⟨some 2, .assign (.const (.slice none 0 0)), none⟩])
  (.seq
  (.reg [
    ⟨some 3, .buildSlice 29 0 #[], none⟩,
    ⟨some 4, .move (.tmp 0), none⟩,
    ⟨some 5, .call { callee := .builtin .append, args := #[.tmp 3, .tmp 4], argTypes := #[29, 29] }, none⟩,
    ⟨some 2, .assign (.tmp 5), none⟩])
  .ret))
theorem hd110 : Try.f110.body.map dec = some c110 := by kernel_rfl
theorem e110 {R : AV → AH → Prop} {h : AH} (x0 : AV) (H : h.wf → AI Try.prog c110 (RetQ Try.prog [.tmp 2] R) [x0, un, un, un, un, un] h) : AC Try.prog 110 [x0] h R :=
  AC_of' (rs := [.tmp 2]) Try.func110 (by kernel_rfl) hd110 Try.ntmps110 rfl H

/-- spec.l1Most -/
def c79 : IC :=
  (.seq
  (.reg [
    ⟨some 4, .assign (.const (.int .i64 0)), none⟩])
  (.seq
  (.seq
  (.reg [
    ⟨some 5, .move (.tmp 0), none⟩,
    ⟨some 6, .move (.tmp 1), none⟩,
    ⟨some 7, .binOp .gtr 3 (.tmp 5) (.tmp 6) 3, none⟩])
  (.cond (.tmp 7)
    (.seq
    (.reg [
      ⟨some 8, .move (.tmp 0), none⟩,
      ⟨some 4, .assign (.tmp 8), none⟩])
    .ret)
    .skip))
  (.seq
  (.reg [
    ⟨some 9, .move (.tmp 1), none⟩,
    ⟨some 4, .assign (.tmp 9), none⟩])
  .ret)))
theorem hd79 : Try.f79.body.map dec = some c79 := by kernel_rfl
theorem e79 {R : AV → AH → Prop} {h : AH} (x0 x1 : AV) (H : h.wf → AI Try.prog c79 (RetQ Try.prog [.tmp 4] R) [x0, x1, un, un, un, un, un, un, un, un] h) : AC Try.prog 79 [x0, x1] h R :=
  AC_of' (rs := [.tmp 4]) Try.func79 (by kernel_rfl) hd79 Try.ntmps79 rfl H

/-- spec.l1Least -/
def c80 : IC :=
  (.seq
  (.reg [
    ⟨some 4, .assign (.const (.int .i64 0)), none⟩])
  (.seq
  (.seq
  (.reg [
    ⟨some 5, .move (.tmp 0), none⟩,
    ⟨some 6, .move (.tmp 1), none⟩,
    ⟨some 7, .binOp .lss 3 (.tmp 5) (.tmp 6) 3, none⟩])
  (.cond (.tmp 7)
    (.seq
    (.reg [
      ⟨some 8, .move (.tmp 0), none⟩,
      ⟨some 4, .assign (.tmp 8), none⟩])
    .ret)
    .skip))
  (.seq
  (.reg [
    ⟨some 9, .move (.tmp 1), none⟩,
    ⟨some 4, .assign (.tmp 9), none⟩])
  .ret)))
theorem hd80 : Try.f80.body.map dec = some c80 := by kernel_rfl
theorem e80 {R : AV → AH → Prop} {h : AH} (x0 x1 : AV) (H : h.wf → AI Try.prog c80 (RetQ Try.prog [.tmp 4] R) [x0, x1, un, un, un, un, un, un, un, un] h) : AC Try.prog 80 [x0, x1] h R :=
  AC_of' (rs := [.tmp 4]) Try.func80 (by kernel_rfl) hd80 Try.ntmps80 rfl H

/-- spec.plStep -/
def c111 : IC :=
  (.seq
  (.reg [
    ⟨some 4, .alloc 108, none⟩])
  (.seq
  (.reg [
    ⟨some 5, .move (.tmp 0), none⟩,
    ⟨some 6, .move (.tmp 1), none⟩,
    ⟨some 7, .call { callee := .value (.func 80), args := #[.tmp 5, .tmp 6], argTypes := #[3, 3] }, none⟩,
    ⟨some 8, .move (.tmp 0), none⟩,
    ⟨some 9, .move (.tmp 1), none⟩,
    ⟨some 10, .call { callee := .value (.func 79), args := #[.tmp 8, .tmp 9], argTypes := #[3, 3] }, none⟩,
    ⟨some 11, .build 108 #[(0, .tmp 7), (1, .tmp 10)], none⟩,
    ⟨none, .store 108 (.tmp 4) (.tmp 11), none⟩])
  .ret))
theorem hd111 : Try.f111.body.map dec = some c111 := by kernel_rfl
theorem e111 {R : AV → AH → Prop} {h : AH} (x0 x1 : AV) (H : h.wf → AI Try.prog c111 (RetQ Try.prog [.cell 4 108] R) [x0, x1, un, un, un, un, un, un, un, un, un, un] h) : AC Try.prog 111 [x0, x1] h R :=
  AC_of' (rs := [.cell 4 108]) Try.func111 (by kernel_rfl) hd111 Try.ntmps111 rfl H

noncomputable def rg86_0 : Array Oper := rawAt Try.f86 0
/-- spec.plThen -/
noncomputable def c86 : IC :=
  (.seq
  (.reg [
    ⟨some 6, .box 31 (.tmp 2), none⟩,
    ⟨some 8, .assign (.const (.slice none 0 0)), none⟩,
    ⟨some 9, .assign (.const (.slice none 0 0)), none⟩])
  (.seq
  (.reg [
    ⟨some 17, .move (.tmp 3), none⟩,
    ⟨some 18, .call { callee := .value (.func 110), args := #[.tmp 17], argTypes := #[29] }, none⟩,
    ⟨some 10, .assign (.tmp 18), none⟩])
  (.seq
  (.reg [
    ⟨some 19, .buildSlice 28 0 #[], none⟩,
    ⟨some 20, .move (.tmp 0), none⟩,
    ⟨some 21, .call { callee := .builtin .append, args := #[.tmp 19, .tmp 20], argTypes := #[28, 28] }, none⟩,
    ⟨some 11, .assign (.tmp 21), none⟩])
  (.seq
  (.seq
  (.reg [
    ⟨some 22, .fieldAddr 31 (.tmp 6) 1, none⟩,
    ⟨some 23, .load 28 (.tmp 22), none⟩,
    ⟨some 24, .call { callee := .builtin .len, args := #[.tmp 23], argTypes := #[28] }, none⟩,
    ⟨some 25, .move (.const (.int .i64 0)), none⟩])
  (.block 0
  (.loop
    (.seq
    (.reg [
      ⟨some 26, .binOp .lss 3 (.tmp 25) (.tmp 24) 3, none⟩])
    (.seq
    (.cond (.tmp 26)
      .skip
      (.exit 0))
    (.seq
    (.block 1
    (.seq
    (.reg [
      ⟨some 27, .indexAddr 28 (.tmp 23) (.tmp 25), none⟩,
      ⟨some 28, .load 108 (.tmp 27), none⟩,
      ⟨some 13, .alloc 108, none⟩,
      ⟨none, .store 108 (.tmp 13) (.tmp 28), none⟩])
    (.seq
    (.raw (.region 6 rg86_0 true))
    (.reg [
      ⟨some 43, .move (.tmp 10), none⟩,
      ⟨some 44, .move (.tmp 1), none⟩,
      ⟨some 45, .move (.tmp 11), none⟩,
      ⟨some 46, .call { callee := .builtin .len, args := #[.tmp 45], argTypes := #[28] }, none⟩,
      ⟨some 47, .binOp .add 3 (.tmp 44) (.tmp 46) 3, none⟩,
      ⟨some 48, .binOp .sub 3 (.tmp 47) (.const (.int .i64 1)) 3, none⟩,
      ⟨some 49, .buildSlice 29 1 #[(0, .tmp 48)], none⟩,
      ⟨some 50, .call { callee := .builtin .append, args := #[.tmp 43, .tmp 49], argTypes := #[29, 29] }, none⟩,
      ⟨some 10, .assign (.tmp 50), none⟩]))))
    (.reg [
      ⟨some 51, .binOp .add 3 (.tmp 25) (.const (.int .i64 1)) 3, none⟩,
      ⟨some 25, .move (.tmp 51), none⟩])))))))
  (.seq
  (.reg [
    ⟨some 14, .assign (.const (.slice none 0 0)), none⟩])
  (.seq
  (.seq
  (.reg [
    ⟨some 52, .fieldAddr 31 (.tmp 6) 2, none⟩,
    ⟨some 53, .load 29 (.tmp 52), none⟩,
    ⟨some 54, .call { callee := .builtin .len, args := #[.tmp 53], argTypes := #[29] }, none⟩,
    ⟨some 55, .move (.const (.int .i64 0)), none⟩])
  (.block 2
  (.loop
    (.seq
    (.reg [
      ⟨some 56, .binOp .lss 3 (.tmp 55) (.tmp 54) 3, none⟩])
    (.seq
    (.cond (.tmp 56)
      .skip
      (.exit 2))
    (.seq
    (.block 3
    (.seq
    (.reg [
      ⟨some 57, .indexAddr 29 (.tmp 53) (.tmp 55), none⟩,
      ⟨some 58, .load 3 (.tmp 57), none⟩,
      ⟨some 16, .assign (.tmp 58), none⟩])
    (.reg [
      ⟨some 59, .move (.tmp 14), none⟩,
      ⟨some 60, .move (.tmp 10), none⟩,
      ⟨some 61, .move (.tmp 16), none⟩,
      ⟨some 62, .indexAddr 29 (.tmp 60) (.tmp 61), none⟩,
      ⟨some 63, .load 3 (.tmp 62), none⟩,
      ⟨some 64, .buildSlice 29 1 #[(0, .tmp 63)], none⟩,
      ⟨some 65, .call { callee := .builtin .append, args := #[.tmp 59, .tmp 64], argTypes := #[29, 29] }, none⟩,
      ⟨some 14, .assign (.tmp 65), none⟩])))
    (.reg [
      ⟨some 66, .binOp .add 3 (.tmp 55) (.const (.int .i64 1)) 3, none⟩,
      ⟨some 55, .move (.tmp 66), none⟩])))))))
  (.seq
  (.reg [
    ⟨some 67, .move (.tmp 11), none⟩,
    ⟨some 68, .move (.tmp 14), none⟩,
    ⟨some 8, .assign (.tmp 67), none⟩,
    ⟨some 9, .assign (.tmp 68), none⟩])
  .ret)))))))
theorem hd86 : Try.f86.body.map dec = some c86 := by kernel_rfl
theorem e86 {R : AV → AH → Prop} {h : AH} (x0 x1 x2 x3 : AV) (H : h.wf → AI Try.prog c86 (RetQ Try.prog [.tmp 8, .tmp 9] R) [x0, x1, x2, x3, un, un, un, un, un, un, un, un, un, un, un, un, un, un, un, un, un, un, un, un, un, un, un, un, un, un, un, un, un, un, un, un, un, un, un, un, un, un, un, un, un, un, un, un, un, un, un, un, un, un, un, un, un, un, un, un, un, un, un, un, un, un, un, un, un] h) : AC Try.prog 86 [x0, x1, x2, x3] h R :=
  AC_of' (rs := [.tmp 8, .tmp 9]) Try.func86 (by kernel_rfl) hd86 Try.ntmps86 rfl H
theorem dz86_0 {h0 : AH} {L : List It} {Q : Exit → List AV → List It → Prop} {a : List AV} {id : Nat} (H : LX Try.prog ⟨[13], []⟩ h0 L L (.c (⟨some 29, .move (.tmp 11), none⟩, .p) <| .c (⟨some 30, .move (.tmp 10), none⟩, .p) <| .c (⟨some 31, .fieldAddr 108 (.tmp 13) 0, none⟩, .p) <| .c (⟨some 32, .load 3 (.tmp 31), none⟩, .l) <| .c (⟨some 33, .indexAddr 29 (.tmp 30) (.tmp 32), none⟩, .p) <| .c (⟨some 34, .load 3 (.tmp 33), none⟩, .l) <| .c (⟨some 35, .move (.tmp 10), none⟩, .p) <| .c (⟨some 36, .fieldAddr 108 (.tmp 13) 1, none⟩, .p) <| .c (⟨some 37, .load 3 (.tmp 36), none⟩, .l) <| .c (⟨some 38, .indexAddr 29 (.tmp 35) (.tmp 37), none⟩, .p) <| .c (⟨some 39, .load 3 (.tmp 38), none⟩, .l) <| .c (⟨some 40, .call { callee := .value (.func 111), args := #[.tmp 34, .tmp 39], argTypes := #[3, 3] }, none⟩, .e) <| .c (⟨some 41, .buildSlice 28 1 #[(0, .tmp 40)], none⟩, .e) <| .c (⟨some 42, .call { callee := .builtin .append, args := #[.tmp 29, .tmp 41], argTypes := #[28, 28] }, none⟩, .f) <| .c (⟨some 11, .assign (.tmp 42), none⟩, .p) <| .n) Q a) : LI Try.prog h0 L (.raw (.region id rg86_0 true)) Q a :=
  LI_draw (.c (0, .p) <| .c (1, .p) <| .c (2, .p) <| .c (3, .l) <| .c (4, .p) <| .c (5, .l) <| .c (6, .p) <| .c (7, .p) <| .c (8, .l) <| .c (9, .p) <| .c (10, .l) <| .c (11, .e) <| .c (12, .e) <| .c (13, .f) <| .c (14, .p) <| .n) [13] (by kernel_rfl) (by kernel_rfl) (by kernel_rfl) H
theorem dy86_0 {h0 : AH} {L : List It} {Q : Exit → List AV → List It → Prop} {a : List AV} {id : Nat} (H : LX Try.prog ⟨[11, 12, 13], []⟩ h0 L L (.c (⟨some 29, .move (.tmp 11), none⟩, .p) <| .c (⟨some 30, .move (.tmp 10), none⟩, .p) <| .c (⟨some 31, .fieldAddr 108 (.tmp 13) 0, none⟩, .p) <| .c (⟨some 32, .load 3 (.tmp 31), none⟩, .l) <| .c (⟨some 33, .indexAddr 29 (.tmp 30) (.tmp 32), none⟩, .p) <| .c (⟨some 34, .load 3 (.tmp 33), none⟩, .l) <| .c (⟨some 35, .move (.tmp 10), none⟩, .p) <| .c (⟨some 36, .fieldAddr 108 (.tmp 13) 1, none⟩, .p) <| .c (⟨some 37, .load 3 (.tmp 36), none⟩, .l) <| .c (⟨some 38, .indexAddr 29 (.tmp 35) (.tmp 37), none⟩, .p) <| .c (⟨some 39, .load 3 (.tmp 38), none⟩, .l) <| .c (⟨some 40, .call { callee := .value (.func 111), args := #[.tmp 34, .tmp 39], argTypes := #[3, 3] }, none⟩, .f) <| .c (⟨some 41, .buildSlice 28 1 #[(0, .tmp 40)], none⟩, .f) <| .c (⟨some 42, .call { callee := .builtin .append, args := #[.tmp 29, .tmp 41], argTypes := #[28, 28] }, none⟩, .f) <| .c (⟨some 11, .assign (.tmp 42), none⟩, .p) <| .n) Q a) : LI Try.prog h0 L (.raw (.region id rg86_0 true)) Q a :=
  LI_draw (.c (0, .p) <| .c (1, .p) <| .c (2, .p) <| .c (3, .l) <| .c (4, .p) <| .c (5, .l) <| .c (6, .p) <| .c (7, .p) <| .c (8, .l) <| .c (9, .p) <| .c (10, .l) <| .c (11, .f) <| .c (12, .f) <| .c (13, .f) <| .c (14, .p) <| .n) [11, 12, 13] (by kernel_rfl) (by kernel_rfl) (by kernel_rfl) H
theorem dr86_0 (m : Nat) {Q : Exit → List AV → AH → Prop} {a : List AV} {h : AH} {id : Nat} (H : AX Try.prog m h [(⟨some 29, .move (.tmp 11), none⟩, true),
  (⟨some 30, .move (.tmp 10), none⟩, true),
  (⟨some 31, .fieldAddr 108 (.tmp 13) 0, none⟩, true),
  (⟨some 32, .load 3 (.tmp 31), none⟩, true),
  (⟨some 33, .indexAddr 29 (.tmp 30) (.tmp 32), none⟩, true),
  (⟨some 34, .load 3 (.tmp 33), none⟩, true),
  (⟨some 35, .move (.tmp 10), none⟩, true),
  (⟨some 36, .fieldAddr 108 (.tmp 13) 1, none⟩, true),
  (⟨some 37, .load 3 (.tmp 36), none⟩, true),
  (⟨some 38, .indexAddr 29 (.tmp 35) (.tmp 37), none⟩, true),
  (⟨some 39, .load 3 (.tmp 38), none⟩, true),
  (⟨some 40, .call { callee := .value (.func 111), args := #[.tmp 34, .tmp 39], argTypes := #[3, 3] }, none⟩, false),
  (⟨some 41, .buildSlice 28 1 #[(0, .tmp 40)], none⟩, false),
  (⟨some 42, .call { callee := .builtin .append, args := #[.tmp 29, .tmp 41], argTypes := #[28, 28] }, none⟩, false),
  (⟨some 11, .assign (.tmp 42), none⟩, true)] (fun a' h' => Q .normal a' h') a h) : AI Try.prog (.raw (.region id rg86_0 true)) Q a h :=
  AI_draw [(0, true), (1, true), (2, true), (3, true), (4, true), (5, true), (6, true), (7, true), (8, true), (9, true), (10, true), (11, false), (12, false), (13, false), (14, true)] m (by kernel_rfl) (by kernel_rfl) (by kernel_rfl) H

noncomputable def rg94_0 : Array Oper := rawAt Try.f94 0
-- NO ORDER
noncomputable def rg94_1 : Array Oper := rawAt Try.f94 1
/-- spec.meTimes -/
noncomputable def c94 : IC :=
  (.seq
  (.reg [
    ⟨some 3, .box 31 (.tmp 0), none⟩,
    ⟨some 6, .alloc 31, none⟩,
    ⟨some 7, .assign (.const (.int .i64 0)), none⟩])
  (.seq
  (.raw (.region 1 rg94_0 true))
  (.seq
  (.raw (.region 2 rg94_1 true))
  .ret)))
theorem hd94 : Try.f94.body.map dec = some c94 := by kernel_rfl
theorem e94 {R : AV → AH → Prop} {h : AH} (x0 x1 x2 : AV) (H : h.wf → AI Try.prog c94 (RetQ Try.prog [.cell 6 31, .tmp 7] R) [x0, x1, x2, un, un, un, un, un, un, un, un, un, un, un, un, un, un, un, un, un, un, un, un, un, un, un, un, un] h) : AC Try.prog 94 [x0, x1, x2] h R :=
  AC_of' (rs := [.cell 6 31, .tmp 7]) Try.func94 (by kernel_rfl) hd94 Try.ntmps94 rfl H
theorem dk94_0 {h0 : AH} {L : List It} {Q : Exit → List AV → List It → Prop} {a : List AV} {id : Nat} (K : List (Nat × List AV)) (hK : ∀ x ∈ K, It.pt x.1 x.2 ∈ L) (H : LX Try.prog ⟨[5, 10, 13], K⟩ h0 L L (.c (⟨some 9, .fieldAddr 31 (.tmp 3) 0, none⟩, .p) <| .c (⟨some 10, .load 3 (.tmp 9), none⟩, .kp) <| .c (⟨some 12, .fieldAddr 31 (.tmp 3) 1, none⟩, .p) <| .c (⟨some 13, .load 28 (.tmp 12), none⟩, .l) <| .c (⟨some 15, .move (.tmp 1), none⟩, .p) <| .c (⟨some 16, .move (.tmp 2), none⟩, .p) <| .t (.c (⟨some 11, .buildSlice 28 0 #[], none⟩, .e) <| .t (.c (⟨some 14, .call { callee := .builtin .append, args := #[.tmp 11, .tmp 13], argTypes := #[28, 28] }, none⟩, .f) <| .t (.c (⟨some 17, .call { callee := .value (.func 111), args := #[.tmp 15, .tmp 16], argTypes := #[3, 3] }, none⟩, .e) <| .t (.c (⟨some 18, .buildSlice 28 1 #[(0, .tmp 17)], none⟩, .e) <| .t (.c (⟨some 19, .call { callee := .builtin .append, args := #[.tmp 14, .tmp 18], argTypes := #[28, 28] }, none⟩, .f) <| .c (⟨some 20, .build 31 #[(0, .tmp 10), (1, .tmp 19)], none⟩, .p) <| .c (⟨some 8, .alloc 31, none⟩, .e) <| .c (⟨none, .store 31 (.tmp 8) (.tmp 20), none⟩, .f) <| .n) (.c (⟨some 8, .alloc 31, none⟩, .e) <| .c (⟨some 19, .call { callee := .builtin .append, args := #[.tmp 14, .tmp 18], argTypes := #[28, 28] }, none⟩, .f) <| .c (⟨some 20, .build 31 #[(0, .tmp 10), (1, .tmp 19)], none⟩, .p) <| .c (⟨none, .store 31 (.tmp 8) (.tmp 20), none⟩, .f) <| .n)) (.c (⟨some 8, .alloc 31, none⟩, .e) <| .c (⟨some 18, .buildSlice 28 1 #[(0, .tmp 17)], none⟩, .e) <| .c (⟨some 19, .call { callee := .builtin .append, args := #[.tmp 14, .tmp 18], argTypes := #[28, 28] }, none⟩, .f) <| .c (⟨some 20, .build 31 #[(0, .tmp 10), (1, .tmp 19)], none⟩, .p) <| .c (⟨none, .store 31 (.tmp 8) (.tmp 20), none⟩, .f) <| .n)) (.c (⟨some 8, .alloc 31, none⟩, .e) <| .c (⟨some 17, .call { callee := .value (.func 111), args := #[.tmp 15, .tmp 16], argTypes := #[3, 3] }, none⟩, .e) <| .c (⟨some 18, .buildSlice 28 1 #[(0, .tmp 17)], none⟩, .e) <| .c (⟨some 19, .call { callee := .builtin .append, args := #[.tmp 14, .tmp 18], argTypes := #[28, 28] }, none⟩, .f) <| .c (⟨some 20, .build 31 #[(0, .tmp 10), (1, .tmp 19)], none⟩, .p) <| .c (⟨none, .store 31 (.tmp 8) (.tmp 20), none⟩, .f) <| .n)) (.c (⟨some 8, .alloc 31, none⟩, .e) <| .c (⟨some 14, .call { callee := .builtin .append, args := #[.tmp 11, .tmp 13], argTypes := #[28, 28] }, none⟩, .f) <| .c (⟨some 17, .call { callee := .value (.func 111), args := #[.tmp 15, .tmp 16], argTypes := #[3, 3] }, none⟩, .e) <| .c (⟨some 18, .buildSlice 28 1 #[(0, .tmp 17)], none⟩, .e) <| .c (⟨some 19, .call { callee := .builtin .append, args := #[.tmp 14, .tmp 18], argTypes := #[28, 28] }, none⟩, .f) <| .c (⟨some 20, .build 31 #[(0, .tmp 10), (1, .tmp 19)], none⟩, .p) <| .c (⟨none, .store 31 (.tmp 8) (.tmp 20), none⟩, .f) <| .n)) (.c (⟨some 8, .alloc 31, none⟩, .e) <| .c (⟨some 11, .buildSlice 28 0 #[], none⟩, .e) <| .c (⟨some 14, .call { callee := .builtin .append, args := #[.tmp 11, .tmp 13], argTypes := #[28, 28] }, none⟩, .f) <| .c (⟨some 17, .call { callee := .value (.func 111), args := #[.tmp 15, .tmp 16], argTypes := #[3, 3] }, none⟩, .e) <| .c (⟨some 18, .buildSlice 28 1 #[(0, .tmp 17)], none⟩, .e) <| .c (⟨some 19, .call { callee := .builtin .append, args := #[.tmp 14, .tmp 18], argTypes := #[28, 28] }, none⟩, .f) <| .c (⟨some 20, .build 31 #[(0, .tmp 10), (1, .tmp 19)], none⟩, .p) <| .c (⟨none, .store 31 (.tmp 8) (.tmp 20), none⟩, .f) <| .n)) Q a) : LI Try.prog h0 L (.raw (.region id rg94_0 true)) Q a :=
  LI_drawK (.c (0, .p) <| .c (1, .kp) <| .c (3, .p) <| .c (4, .l) <| .c (6, .p) <| .c (7, .p) <| .t (.c (2, .e) <| .t (.c (5, .f) <| .t (.c (8, .e) <| .t (.c (9, .e) <| .t (.c (10, .f) <| .c (11, .p) <| .c (12, .e) <| .c (13, .f) <| .n) (.c (12, .e) <| .c (10, .f) <| .c (11, .p) <| .c (13, .f) <| .n)) (.c (12, .e) <| .c (9, .e) <| .c (10, .f) <| .c (11, .p) <| .c (13, .f) <| .n)) (.c (12, .e) <| .c (8, .e) <| .c (9, .e) <| .c (10, .f) <| .c (11, .p) <| .c (13, .f) <| .n)) (.c (12, .e) <| .c (5, .f) <| .c (8, .e) <| .c (9, .e) <| .c (10, .f) <| .c (11, .p) <| .c (13, .f) <| .n)) (.c (12, .e) <| .c (2, .e) <| .c (5, .f) <| .c (8, .e) <| .c (9, .e) <| .c (10, .f) <| .c (11, .p) <| .c (13, .f) <| .n)) [5, 10, 13] K hK (by kernel_rfl) (by kernel_rfl) (by kernel_rfl) H
theorem dk94_1 {h0 : AH} {L : List It} {Q : Exit → List AV → List It → Prop} {a : List AV} {id : Nat} (K : List (Nat × List AV)) (hK : ∀ x ∈ K, It.pt x.1 x.2 ∈ L) (H : LX Try.prog ⟨[7], K⟩ h0 L L (.c (⟨some 21, .load 31 (.tmp 8), none⟩, .l) <| .c (⟨some 22, .fieldAddr 31 (.tmp 3) 0, none⟩, .p) <| .c (⟨some 23, .load 3 (.tmp 22), none⟩, .kp) <| .c (⟨some 24, .fieldAddr 31 (.tmp 3) 1, none⟩, .p) <| .t (.c (⟨some 25, .load 28 (.tmp 24), none⟩, .e) <| .c (⟨some 26, .call { callee := .builtin .len, args := #[.tmp 25], argTypes := #[28] }, none⟩, .p) <| .c (⟨some 27, .binOp .add 3 (.tmp 23) (.tmp 26) 3, none⟩, .p) <| .c (⟨none, .store 31 (.tmp 6) (.tmp 21), none⟩, .f) <| .c (⟨some 7, .assign (.tmp 27), none⟩, .p) <| .n) (.c (⟨none, .store 31 (.tmp 6) (.tmp 21), none⟩, .f) <| .c (⟨some 25, .load 28 (.tmp 24), none⟩, .e) <| .c (⟨some 26, .call { callee := .builtin .len, args := #[.tmp 25], argTypes := #[28] }, none⟩, .p) <| .c (⟨some 27, .binOp .add 3 (.tmp 23) (.tmp 26) 3, none⟩, .p) <| .c (⟨some 7, .assign (.tmp 27), none⟩, .p) <| .n)) Q a) : LI Try.prog h0 L (.raw (.region id rg94_1 true)) Q a :=
  LI_drawK (.c (0, .l) <| .c (1, .p) <| .c (2, .kp) <| .c (3, .p) <| .t (.c (4, .e) <| .c (5, .p) <| .c (6, .p) <| .c (7, .f) <| .c (8, .p) <| .n) (.c (7, .f) <| .c (4, .e) <| .c (5, .p) <| .c (6, .p) <| .c (8, .p) <| .n)) [7] K hK (by kernel_rfl) (by kernel_rfl) (by kernel_rfl) H
theorem dr94_1 (m : Nat) {Q : Exit → List AV → AH → Prop} {a : List AV} {h : AH} {id : Nat} (H : AX Try.prog m h [(⟨some 21, .load 31 (.tmp 8), none⟩, true),
  (⟨some 22, .fieldAddr 31 (.tmp 3) 0, none⟩, true),
  (⟨some 23, .load 3 (.tmp 22), none⟩, true),
  (⟨some 24, .fieldAddr 31 (.tmp 3) 1, none⟩, true),
  (⟨some 25, .load 28 (.tmp 24), none⟩, true),
  (⟨some 26, .call { callee := .builtin .len, args := #[.tmp 25], argTypes := #[28] }, none⟩, true),
  (⟨some 27, .binOp .add 3 (.tmp 23) (.tmp 26) 3, none⟩, true),
  (⟨none, .store 31 (.tmp 6) (.tmp 21), none⟩, false),
  (⟨some 7, .assign (.tmp 27), none⟩, true)] (fun a' h' => Q .normal a' h') a h) : AI Try.prog (.raw (.region id rg94_1 true)) Q a h :=
  AI_draw [(0, true), (1, true), (2, true), (3, true), (4, true), (5, true), (6, true), (7, false), (8, true)] m (by kernel_rfl) (by kernel_rfl) (by kernel_rfl) H

/-- spec.meEnd -/
def c95 : IC :=
  (.seq
  (.reg [
    ⟨some 2, .box 31 (.tmp 0), none⟩,
    ⟨some 4, .alloc 31, none⟩])
  (.seq
  (.reg [
    ⟨some 5, .fieldAddr 31 (.tmp 2) 0, none⟩,
    ⟨some 6, .load 3 (.tmp 5), none⟩,
    ⟨some 7, .fieldAddr 31 (.tmp 2) 1, none⟩,
    ⟨some 8, .load 28 (.tmp 7), none⟩,
    ⟨some 9, .move (.tmp 1), none⟩,
    ⟨some 10, .buildSlice 29 1 #[(0, .tmp 9)], none⟩,
    ⟨some 11, .build 31 #[(0, .tmp 6), (1, .tmp 8), (2, .tmp 10)], none⟩,
    ⟨none, .store 31 (.tmp 4) (.tmp 11), none⟩])
  .ret))
theorem hd95 : Try.f95.body.map dec = some c95 := by kernel_rfl
theorem e95 {R : AV → AH → Prop} {h : AH} (x0 x1 : AV) (H : h.wf → AI Try.prog c95 (RetQ Try.prog [.cell 4 31] R) [x0, x1, un, un, un, un, un, un, un, un, un, un] h) : AC Try.prog 95 [x0, x1] h R :=
  AC_of' (rs := [.cell 4 31]) Try.func95 (by kernel_rfl) hd95 Try.ntmps95 rfl H

/-- spec.meFactor -/
def c125 : IC :=
  (.seq
  (.reg [
    ⟨some 2, .assign (.const (.int .i64 0)), none⟩])
  (.seq
  (.seq
  (.reg [
    ⟨some 3, .assign (.const (.int .i64 2)), none⟩])
  (.block 0
  (.loop
    (.seq
    (.seq
    (.reg [
      ⟨some 4, .move (.tmp 3), none⟩,
      ⟨some 5, .move (.tmp 3), none⟩,
      ⟨some 6, .binOp .mul 3 (.tmp 4) (.tmp 5) 3, none⟩,
      ⟨some 7, .move (.tmp 0), none⟩,
      ⟨some 8, .binOp .leq 3 (.tmp 6) (.tmp 7) 3, none⟩])
    (.cond (.tmp 8)
      .skip
      (.exit 0)))
    (.seq
    (.block 1
    (.seq
    (.reg [
      ⟨some 11, .move (.tmp 0), none⟩,
      ⟨some 12, .move (.tmp 3), none⟩,
      ⟨some 13, .binOp .rem 3 (.tmp 11) (.tmp 12) 3, none⟩,
      ⟨some 14, .binOp .eql 3 (.tmp 13) (.const (.int .i64 0)) 3, none⟩])
    (.cond (.tmp 14)
      (.seq
      (.reg [
        ⟨some 15, .move (.tmp 3), none⟩,
        ⟨some 2, .assign (.tmp 15), none⟩])
      .ret)
      .skip)))
    (.reg [
      ⟨some 9, .move (.tmp 3), none⟩,
      ⟨some 10, .binOp .add 3 (.tmp 9) (.const (.int .i64 1)) 3, none⟩,
      ⟨some 3, .assign (.tmp 10), none⟩]))))))
  (.seq
  (.reg [
    ⟨some 16, .move (.tmp 0), none⟩,
    ⟨some 2, .assign (.tmp 16), none⟩])
  .ret)))
theorem hd125 : Try.f125.body.map dec = some c125 := by kernel_rfl
theorem e125 {R : AV → AH → Prop} {h : AH} (x0 : AV) (H : h.wf → AI Try.prog c125 (RetQ Try.prog [.tmp 2] R) [x0, un, un, un, un, un, un, un, un, un, un, un, un, un, un, un, un] h) : AC Try.prog 125 [x0] h R :=
  AC_of' (rs := [.tmp 2]) Try.func125 (by kernel_rfl) hd125 Try.ntmps125 rfl H

noncomputable def rg58_0 : Array Oper := rawAt Try.f58 0
-- NO ORDER
noncomputable def rg58_1 : Array Oper := rawAt Try.f58 1
/-- spec.meFactors -/
noncomputable def c58 : IC :=
  (.seq
  (.reg [
    ⟨some 2, .alloc 31, none⟩])
  (.seq
  (.seq
  (.reg [
    ⟨some 10, .move (.tmp 0), none⟩,
    ⟨some 11, .binOp .eql 3 (.tmp 10) (.const (.int .i64 1)) 3, none⟩])
  (.cond (.tmp 11)
    (.seq
    (.reg [
      ⟨some 12, .build 31 #[(0, .const (.int .i64 1))], none⟩,
      ⟨some 13, .call { callee := .value (.func 95), args := #[.tmp 12, .const (.int .i64 0)], argTypes := #[31, 3] }, none⟩,
      ⟨none, .store 31 (.tmp 2) (.tmp 13), none⟩])
    .ret)
    .skip))
  (.seq
  (.reg [
    ⟨some 14, .move (.tmp 0), none⟩,
    ⟨some 15, .call { callee := .value (.func 125), args := #[.tmp 14], argTypes := #[3] }, none⟩,
    ⟨some 3, .assign (.tmp 15), none⟩])
  (.seq
  (.seq
  (.reg [
    ⟨some 16, .move (.tmp 3), none⟩,
    ⟨some 17, .move (.tmp 0), none⟩,
    ⟨some 18, .binOp .eql 3 (.tmp 16) (.tmp 17) 3, none⟩])
  (.cond (.tmp 18)
    (.seq
    (.reg [
      ⟨some 19, .move (.tmp 0), none⟩,
      ⟨some 20, .binOp .sub 3 (.tmp 19) (.const (.int .i64 1)) 3, none⟩,
      ⟨some 21, .call { callee := .value (.func 58), args := #[.tmp 20], argTypes := #[3] }, none⟩,
      ⟨some 4, .alloc 31, none⟩,
      ⟨none, .store 31 (.tmp 4) (.tmp 21), none⟩])
    (.seq
    (.raw (.region 6 rg58_0 true))
    (.seq
    (.reg [
      ⟨some 31, .load 31 (.tmp 5), none⟩,
      ⟨some 32, .move (.tmp 6), none⟩,
      ⟨some 33, .call { callee := .value (.func 95), args := #[.tmp 31, .tmp 32], argTypes := #[31, 3] }, none⟩,
      ⟨none, .store 31 (.tmp 2) (.tmp 33), none⟩])
    .ret)))
    .skip))
  (.seq
  (.reg [
    ⟨some 34, .move (.tmp 3), none⟩,
    ⟨some 35, .call { callee := .value (.func 58), args := #[.tmp 34], argTypes := #[3] }, none⟩,
    ⟨some 7, .alloc 31, none⟩,
    ⟨none, .store 31 (.tmp 7) (.tmp 35), none⟩])
  (.seq
  (.raw (.region 9 rg58_1 true))
  (.seq
  (.reg [
    ⟨some 48, .move (.tmp 8), none⟩,
    ⟨some 49, .move (.tmp 9), none⟩,
    ⟨some 50, .build 31 #[(0, .const (.int .i64 1)), (1, .tmp 48), (2, .tmp 49)], none⟩,
    ⟨none, .store 31 (.tmp 2) (.tmp 50), none⟩])
  .ret)))))))
theorem hd58 : Try.f58.body.map dec = some c58 := by kernel_rfl
theorem e58 {R : AV → AH → Prop} {h : AH} (x0 : AV) (H : h.wf → AI Try.prog c58 (RetQ Try.prog [.cell 2 31] R) [x0, un, un, un, un, un, un, un, un, un, un, un, un, un, un, un, un, un, un, un, un, un, un, un, un, un, un, un, un, un, un, un, un, un, un, un, un, un, un, un, un, un, un, un, un, un, un, un, un, un, un] h) : AC Try.prog 58 [x0] h R :=
  AC_of' (rs := [.cell 2 31]) Try.func58 (by kernel_rfl) hd58 Try.ntmps58 rfl H
theorem dz58_0 {h0 : AH} {L : List It} {Q : Exit → List AV → List It → Prop} {a : List AV} {id : Nat} (H : LX Try.prog ⟨[10], []⟩ h0 L L (.c (⟨some 23, .load 31 (.tmp 4), none⟩, .l) <| .c (⟨some 24, .fieldAddr 31 (.tmp 4) 2, none⟩, .p) <| .c (⟨some 25, .load 29 (.tmp 24), none⟩, .l) <| .c (⟨some 26, .indexAddr 29 (.tmp 25) (.const (.int .i64 0)), none⟩, .p) <| .c (⟨some 27, .load 3 (.tmp 26), none⟩, .l) <| .t (.c (⟨some 28, .call { callee := .value (.func 94), args := #[.tmp 23, .tmp 27, .const (.int .i64 0)], argTypes := #[31, 3, 3] }, none⟩, .e) <| .c (⟨some 22, .move (.tmp 28), none⟩, .p) <| .c (⟨some 29, .extract (.tmp 22) 0, none⟩, .p) <| .c (⟨some 30, .extract (.tmp 22) 1, none⟩, .p) <| .c (⟨some 5, .alloc 31, none⟩, .e) <| .c (⟨none, .store 31 (.tmp 5) (.tmp 29), none⟩, .f) <| .c (⟨some 6, .assign (.tmp 30), none⟩, .p) <| .n) (.c (⟨some 5, .alloc 31, none⟩, .e) <| .c (⟨some 28, .call { callee := .value (.func 94), args := #[.tmp 23, .tmp 27, .const (.int .i64 0)], argTypes := #[31, 3, 3] }, none⟩, .e) <| .c (⟨some 22, .move (.tmp 28), none⟩, .p) <| .c (⟨some 29, .extract (.tmp 22) 0, none⟩, .p) <| .c (⟨some 30, .extract (.tmp 22) 1, none⟩, .p) <| .c (⟨none, .store 31 (.tmp 5) (.tmp 29), none⟩, .f) <| .c (⟨some 6, .assign (.tmp 30), none⟩, .p) <| .n)) Q a) : LI Try.prog h0 L (.raw (.region id rg58_0 true)) Q a :=
  LI_draw (.c (0, .l) <| .c (1, .p) <| .c (2, .l) <| .c (3, .p) <| .c (4, .l) <| .t (.c (5, .e) <| .c (6, .p) <| .c (7, .p) <| .c (8, .p) <| .c (9, .e) <| .c (10, .f) <| .c (11, .p) <| .n) (.c (9, .e) <| .c (5, .e) <| .c (6, .p) <| .c (7, .p) <| .c (8, .p) <| .c (10, .f) <| .c (11, .p) <| .n)) [10] (by kernel_rfl) (by kernel_rfl) (by kernel_rfl) H
theorem db58_0 {h0 : AH} {L : List It} {Q : Exit → List AV → List It → Prop} {a : List AV} {id : Nat} (K : List (Nat × List AV)) (hK : ∀ x ∈ K, It.pt x.1 x.2 ∈ L) (H : LX Try.prog ⟨[5, 9, 10], K⟩ h0 L L (.c (⟨some 24, .fieldAddr 31 (.tmp 4) 2, none⟩, .p) <| .t (.c (⟨some 23, .load 31 (.tmp 4), none⟩, .e) <| .t (.c (⟨some 25, .load 29 (.tmp 24), none⟩, .e) <| .c (⟨some 26, .indexAddr 29 (.tmp 25) (.const (.int .i64 0)), none⟩, .p) <| .c (⟨some 27, .load 3 (.tmp 26), none⟩, .kp) <| .t (.c (⟨some 28, .call { callee := .value (.func 94), args := #[.tmp 23, .tmp 27, .const (.int .i64 0)], argTypes := #[31, 3, 3] }, none⟩, .f) <| .c (⟨some 22, .move (.tmp 28), none⟩, .p) <| .c (⟨some 29, .extract (.tmp 22) 0, none⟩, .p) <| .c (⟨some 30, .extract (.tmp 22) 1, none⟩, .p) <| .c (⟨some 5, .alloc 31, none⟩, .f) <| .c (⟨none, .store 31 (.tmp 5) (.tmp 29), none⟩, .f) <| .c (⟨some 6, .assign (.tmp 30), none⟩, .p) <| .n) (.c (⟨some 5, .alloc 31, none⟩, .f) <| .c (⟨some 28, .call { callee := .value (.func 94), args := #[.tmp 23, .tmp 27, .const (.int .i64 0)], argTypes := #[31, 3, 3] }, none⟩, .f) <| .c (⟨some 22, .move (.tmp 28), none⟩, .p) <| .c (⟨some 29, .extract (.tmp 22) 0, none⟩, .p) <| .c (⟨some 30, .extract (.tmp 22) 1, none⟩, .p) <| .c (⟨none, .store 31 (.tmp 5) (.tmp 29), none⟩, .f) <| .c (⟨some 6, .assign (.tmp 30), none⟩, .p) <| .n)) (.c (⟨some 5, .alloc 31, none⟩, .f) <| .c (⟨some 25, .load 29 (.tmp 24), none⟩, .e) <| .c (⟨some 26, .indexAddr 29 (.tmp 25) (.const (.int .i64 0)), none⟩, .p) <| .c (⟨some 27, .load 3 (.tmp 26), none⟩, .kp) <| .c (⟨some 28, .call { callee := .value (.func 94), args := #[.tmp 23, .tmp 27, .const (.int .i64 0)], argTypes := #[31, 3, 3] }, none⟩, .f) <| .c (⟨some 22, .move (.tmp 28), none⟩, .p) <| .c (⟨some 29, .extract (.tmp 22) 0, none⟩, .p) <| .c (⟨some 30, .extract (.tmp 22) 1, none⟩, .p) <| .c (⟨none, .store 31 (.tmp 5) (.tmp 29), none⟩, .f) <| .c (⟨some 6, .assign (.tmp 30), none⟩, .p) <| .n)) (.t (.c (⟨some 25, .load 29 (.tmp 24), none⟩, .e) <| .c (⟨some 26, .indexAddr 29 (.tmp 25) (.const (.int .i64 0)), none⟩, .p) <| .c (⟨some 27, .load 3 (.tmp 26), none⟩, .kp) <| .t (.c (⟨some 23, .load 31 (.tmp 4), none⟩, .e) <| .t (.c (⟨some 28, .call { callee := .value (.func 94), args := #[.tmp 23, .tmp 27, .const (.int .i64 0)], argTypes := #[31, 3, 3] }, none⟩, .f) <| .c (⟨some 22, .move (.tmp 28), none⟩, .p) <| .c (⟨some 29, .extract (.tmp 22) 0, none⟩, .p) <| .c (⟨some 30, .extract (.tmp 22) 1, none⟩, .p) <| .c (⟨some 5, .alloc 31, none⟩, .f) <| .c (⟨none, .store 31 (.tmp 5) (.tmp 29), none⟩, .f) <| .c (⟨some 6, .assign (.tmp 30), none⟩, .p) <| .n) (.c (⟨some 5, .alloc 31, none⟩, .f) <| .c (⟨some 28, .call { callee := .value (.func 94), args := #[.tmp 23, .tmp 27, .const (.int .i64 0)], argTypes := #[31, 3, 3] }, none⟩, .f) <| .c (⟨some 22, .move (.tmp 28), none⟩, .p) <| .c (⟨some 29, .extract (.tmp 22) 0, none⟩, .p) <| .c (⟨some 30, .extract (.tmp 22) 1, none⟩, .p) <| .c (⟨none, .store 31 (.tmp 5) (.tmp 29), none⟩, .f) <| .c (⟨some 6, .assign (.tmp 30), none⟩, .p) <| .n)) (.c (⟨some 5, .alloc 31, none⟩, .f) <| .c (⟨some 23, .load 31 (.tmp 4), none⟩, .e) <| .c (⟨some 28, .call { callee := .value (.func 94), args := #[.tmp 23, .tmp 27, .const (.int .i64 0)], argTypes := #[31, 3, 3] }, none⟩, .f) <| .c (⟨some 22, .move (.tmp 28), none⟩, .p) <| .c (⟨some 29, .extract (.tmp 22) 0, none⟩, .p) <| .c (⟨some 30, .extract (.tmp 22) 1, none⟩, .p) <| .c (⟨none, .store 31 (.tmp 5) (.tmp 29), none⟩, .f) <| .c (⟨some 6, .assign (.tmp 30), none⟩, .p) <| .n)) (.c (⟨some 5, .alloc 31, none⟩, .f) <| .t (.c (⟨some 23, .load 31 (.tmp 4), none⟩, .e) <| .c (⟨some 25, .load 29 (.tmp 24), none⟩, .e) <| .c (⟨some 26, .indexAddr 29 (.tmp 25) (.const (.int .i64 0)), none⟩, .p) <| .c (⟨some 27, .load 3 (.tmp 26), none⟩, .kp) <| .c (⟨some 28, .call { callee := .value (.func 94), args := #[.tmp 23, .tmp 27, .const (.int .i64 0)], argTypes := #[31, 3, 3] }, none⟩, .f) <| .c (⟨some 22, .move (.tmp 28), none⟩, .p) <| .c (⟨some 29, .extract (.tmp 22) 0, none⟩, .p) <| .c (⟨some 30, .extract (.tmp 22) 1, none⟩, .p) <| .c (⟨none, .store 31 (.tmp 5) (.tmp 29), none⟩, .f) <| .c (⟨some 6, .assign (.tmp 30), none⟩, .p) <| .n) (.c (⟨some 25, .load 29 (.tmp 24), none⟩, .e) <| .c (⟨some 26, .indexAddr 29 (.tmp 25) (.const (.int .i64 0)), none⟩, .p) <| .c (⟨some 27, .load 3 (.tmp 26), none⟩, .kp) <| .c (⟨some 23, .load 31 (.tmp 4), none⟩, .e) <| .c (⟨some 28, .call { callee := .value (.func 94), args := #[.tmp 23, .tmp 27, .const (.int .i64 0)], argTypes := #[31, 3, 3] }, none⟩, .f) <| .c (⟨some 22, .move (.tmp 28), none⟩, .p) <| .c (⟨some 29, .extract (.tmp 22) 0, none⟩, .p) <| .c (⟨some 30, .extract (.tmp 22) 1, none⟩, .p) <| .c (⟨none, .store 31 (.tmp 5) (.tmp 29), none⟩, .f) <| .c (⟨some 6, .assign (.tmp 30), none⟩, .p) <| .n)))) Q a) : LI Try.prog h0 L (.raw (.region id rg58_0 true)) Q a :=
  LI_drawK (.c (1, .p) <| .t (.c (0, .e) <| .t (.c (2, .e) <| .c (3, .p) <| .c (4, .kp) <| .t (.c (5, .f) <| .c (6, .p) <| .c (7, .p) <| .c (8, .p) <| .c (9, .f) <| .c (10, .f) <| .c (11, .p) <| .n) (.c (9, .f) <| .c (5, .f) <| .c (6, .p) <| .c (7, .p) <| .c (8, .p) <| .c (10, .f) <| .c (11, .p) <| .n)) (.c (9, .f) <| .c (2, .e) <| .c (3, .p) <| .c (4, .kp) <| .c (5, .f) <| .c (6, .p) <| .c (7, .p) <| .c (8, .p) <| .c (10, .f) <| .c (11, .p) <| .n)) (.t (.c (2, .e) <| .c (3, .p) <| .c (4, .kp) <| .t (.c (0, .e) <| .t (.c (5, .f) <| .c (6, .p) <| .c (7, .p) <| .c (8, .p) <| .c (9, .f) <| .c (10, .f) <| .c (11, .p) <| .n) (.c (9, .f) <| .c (5, .f) <| .c (6, .p) <| .c (7, .p) <| .c (8, .p) <| .c (10, .f) <| .c (11, .p) <| .n)) (.c (9, .f) <| .c (0, .e) <| .c (5, .f) <| .c (6, .p) <| .c (7, .p) <| .c (8, .p) <| .c (10, .f) <| .c (11, .p) <| .n)) (.c (9, .f) <| .t (.c (0, .e) <| .c (2, .e) <| .c (3, .p) <| .c (4, .kp) <| .c (5, .f) <| .c (6, .p) <| .c (7, .p) <| .c (8, .p) <| .c (10, .f) <| .c (11, .p) <| .n) (.c (2, .e) <| .c (3, .p) <| .c (4, .kp) <| .c (0, .e) <| .c (5, .f) <| .c (6, .p) <| .c (7, .p) <| .c (8, .p) <| .c (10, .f) <| .c (11, .p) <| .n)))) [5, 9, 10] K hK (by kernel_rfl) (by kernel_rfl) (by kernel_rfl) H
theorem dz58_1 {h0 : AH} {L : List It} {Q : Exit → List AV → List It → Prop} {a : List AV} {id : Nat} (H : LX Try.prog ⟨[], []⟩ h0 L L (.c (⟨some 37, .fieldAddr 31 (.tmp 7) 1, none⟩, .p) <| .c (⟨some 38, .load 28 (.tmp 37), none⟩, .l) <| .c (⟨some 39, .move (.tmp 0), none⟩, .p) <| .c (⟨some 40, .move (.tmp 3), none⟩, .p) <| .c (⟨some 41, .binOp .quo 3 (.tmp 39) (.tmp 40) 3, none⟩, .p) <| .c (⟨some 43, .fieldAddr 31 (.tmp 7) 2, none⟩, .p) <| .c (⟨some 44, .load 29 (.tmp 43), none⟩, .l) <| .c (⟨some 42, .call { callee := .value (.func 58), args := #[.tmp 41], argTypes := #[3] }, none⟩, .e) <| .c (⟨some 45, .call { callee := .value (.func 86), args := #[.tmp 38, .const (.int .i64 1), .tmp 42, .tmp 44], argTypes := #[28, 3, 31, 29] }, none⟩, .e) <| .c (⟨some 36, .move (.tmp 45), none⟩, .p) <| .c (⟨some 46, .extract (.tmp 36) 0, none⟩, .p) <| .c (⟨some 47, .extract (.tmp 36) 1, none⟩, .p) <| .c (⟨some 8, .assign (.tmp 46), none⟩, .p) <| .c (⟨some 9, .assign (.tmp 47), none⟩, .p) <| .n) Q a) : LI Try.prog h0 L (.raw (.region id rg58_1 true)) Q a :=
  LI_draw (.c (0, .p) <| .c (1, .l) <| .c (2, .p) <| .c (3, .p) <| .c (4, .p) <| .c (6, .p) <| .c (7, .l) <| .c (5, .e) <| .c (8, .e) <| .c (9, .p) <| .c (10, .p) <| .c (11, .p) <| .c (12, .p) <| .c (13, .p) <| .n) [] (by kernel_rfl) (by kernel_rfl) (by kernel_rfl) H
theorem db58_1 {h0 : AH} {L : List It} {Q : Exit → List AV → List It → Prop} {a : List AV} {id : Nat} (K : List (Nat × List AV)) (hK : ∀ x ∈ K, It.pt x.1 x.2 ∈ L) (H : LX Try.prog ⟨[5, 8], K⟩ h0 L L (.c (⟨some 37, .fieldAddr 31 (.tmp 7) 1, none⟩, .p) <| .c (⟨some 39, .move (.tmp 0), none⟩, .p) <| .c (⟨some 40, .move (.tmp 3), none⟩, .p) <| .c (⟨some 41, .binOp .quo 3 (.tmp 39) (.tmp 40) 3, none⟩, .p) <| .c (⟨some 43, .fieldAddr 31 (.tmp 7) 2, none⟩, .p) <| .t (.c (⟨some 38, .load 28 (.tmp 37), none⟩, .e) <| .t (.c (⟨some 42, .call { callee := .value (.func 58), args := #[.tmp 41], argTypes := #[3] }, none⟩, .f) <| .c (⟨some 44, .load 29 (.tmp 43), none⟩, .e) <| .c (⟨some 45, .call { callee := .value (.func 86), args := #[.tmp 38, .const (.int .i64 1), .tmp 42, .tmp 44], argTypes := #[28, 3, 31, 29] }, none⟩, .f) <| .c (⟨some 36, .move (.tmp 45), none⟩, .p) <| .c (⟨some 46, .extract (.tmp 36) 0, none⟩, .p) <| .c (⟨some 47, .extract (.tmp 36) 1, none⟩, .p) <| .c (⟨some 8, .assign (.tmp 46), none⟩, .p) <| .c (⟨some 9, .assign (.tmp 47), none⟩, .p) <| .n) (.c (⟨some 44, .load 29 (.tmp 43), none⟩, .e) <| .c (⟨some 42, .call { callee := .value (.func 58), args := #[.tmp 41], argTypes := #[3] }, none⟩, .f) <| .c (⟨some 45, .call { callee := .value (.func 86), args := #[.tmp 38, .const (.int .i64 1), .tmp 42, .tmp 44], argTypes := #[28, 3, 31, 29] }, none⟩, .f) <| .c (⟨some 36, .move (.tmp 45), none⟩, .p) <| .c (⟨some 46, .extract (.tmp 36) 0, none⟩, .p) <| .c (⟨some 47, .extract (.tmp 36) 1, none⟩, .p) <| .c (⟨some 8, .assign (.tmp 46), none⟩, .p) <| .c (⟨some 9, .assign (.tmp 47), none⟩, .p) <| .n)) (.t (.c (⟨some 42, .call { callee := .value (.func 58), args := #[.tmp 41], argTypes := #[3] }, none⟩, .f) <| .t (.c (⟨some 38, .load 28 (.tmp 37), none⟩, .e) <| .c (⟨some 44, .load 29 (.tmp 43), none⟩, .e) <| .c (⟨some 45, .call { callee := .value (.func 86), args := #[.tmp 38, .const (.int .i64 1), .tmp 42, .tmp 44], argTypes := #[28, 3, 31, 29] }, none⟩, .f) <| .c (⟨some 36, .move (.tmp 45), none⟩, .p) <| .c (⟨some 46, .extract (.tmp 36) 0, none⟩, .p) <| .c (⟨some 47, .extract (.tmp 36) 1, none⟩, .p) <| .c (⟨some 8, .assign (.tmp 46), none⟩, .p) <| .c (⟨some 9, .assign (.tmp 47), none⟩, .p) <| .n) (.c (⟨some 44, .load 29 (.tmp 43), none⟩, .e) <| .c (⟨some 38, .load 28 (.tmp 37), none⟩, .e) <| .c (⟨some 45, .call { callee := .value (.func 86), args := #[.tmp 38, .const (.int .i64 1), .tmp 42, .tmp 44], argTypes := #[28, 3, 31, 29] }, none⟩, .f) <| .c (⟨some 36, .move (.tmp 45), none⟩, .p) <| .c (⟨some 46, .extract (.tmp 36) 0, none⟩, .p) <| .c (⟨some 47, .extract (.tmp 36) 1, none⟩, .p) <| .c (⟨some 8, .assign (.tmp 46), none⟩, .p) <| .c (⟨some 9, .assign (.tmp 47), none⟩, .p) <| .n)) (.c (⟨some 44, .load 29 (.tmp 43), none⟩, .e) <| .t (.c (⟨some 38, .load 28 (.tmp 37), none⟩, .e) <| .c (⟨some 42, .call { callee := .value (.func 58), args := #[.tmp 41], argTypes := #[3] }, none⟩, .f) <| .c (⟨some 45, .call { callee := .value (.func 86), args := #[.tmp 38, .const (.int .i64 1), .tmp 42, .tmp 44], argTypes := #[28, 3, 31, 29] }, none⟩, .f) <| .c (⟨some 36, .move (.tmp 45), none⟩, .p) <| .c (⟨some 46, .extract (.tmp 36) 0, none⟩, .p) <| .c (⟨some 47, .extract (.tmp 36) 1, none⟩, .p) <| .c (⟨some 8, .assign (.tmp 46), none⟩, .p) <| .c (⟨some 9, .assign (.tmp 47), none⟩, .p) <| .n) (.c (⟨some 42, .call { callee := .value (.func 58), args := #[.tmp 41], argTypes := #[3] }, none⟩, .f) <| .c (⟨some 38, .load 28 (.tmp 37), none⟩, .e) <| .c (⟨some 45, .call { callee := .value (.func 86), args := #[.tmp 38, .const (.int .i64 1), .tmp 42, .tmp 44], argTypes := #[28, 3, 31, 29] }, none⟩, .f) <| .c (⟨some 36, .move (.tmp 45), none⟩, .p) <| .c (⟨some 46, .extract (.tmp 36) 0, none⟩, .p) <| .c (⟨some 47, .extract (.tmp 36) 1, none⟩, .p) <| .c (⟨some 8, .assign (.tmp 46), none⟩, .p) <| .c (⟨some 9, .assign (.tmp 47), none⟩, .p) <| .n)))) Q a) : LI Try.prog h0 L (.raw (.region id rg58_1 true)) Q a :=
  LI_drawK (.c (0, .p) <| .c (2, .p) <| .c (3, .p) <| .c (4, .p) <| .c (6, .p) <| .t (.c (1, .e) <| .t (.c (5, .f) <| .c (7, .e) <| .c (8, .f) <| .c (9, .p) <| .c (10, .p) <| .c (11, .p) <| .c (12, .p) <| .c (13, .p) <| .n) (.c (7, .e) <| .c (5, .f) <| .c (8, .f) <| .c (9, .p) <| .c (10, .p) <| .c (11, .p) <| .c (12, .p) <| .c (13, .p) <| .n)) (.t (.c (5, .f) <| .t (.c (1, .e) <| .c (7, .e) <| .c (8, .f) <| .c (9, .p) <| .c (10, .p) <| .c (11, .p) <| .c (12, .p) <| .c (13, .p) <| .n) (.c (7, .e) <| .c (1, .e) <| .c (8, .f) <| .c (9, .p) <| .c (10, .p) <| .c (11, .p) <| .c (12, .p) <| .c (13, .p) <| .n)) (.c (7, .e) <| .t (.c (1, .e) <| .c (5, .f) <| .c (8, .f) <| .c (9, .p) <| .c (10, .p) <| .c (11, .p) <| .c (12, .p) <| .c (13, .p) <| .n) (.c (5, .f) <| .c (1, .e) <| .c (8, .f) <| .c (9, .p) <| .c (10, .p) <| .c (11, .p) <| .c (12, .p) <| .c (13, .p) <| .n)))) [5, 8] K hK (by kernel_rfl) (by kernel_rfl) (by kernel_rfl) H
theorem dl58_1 {h0 : AH} {L : List It} {Q : Exit → List AV → List It → Prop} {a : List AV} {id : Nat} (K : List (Nat × List AV)) (hK : ∀ x ∈ K, It.pt x.1 x.2 ∈ L) (H : LX Try.prog ⟨[5], K⟩ h0 L L (.c (⟨some 37, .fieldAddr 31 (.tmp 7) 1, none⟩, .p) <| .c (⟨some 39, .move (.tmp 0), none⟩, .p) <| .c (⟨some 40, .move (.tmp 3), none⟩, .p) <| .c (⟨some 41, .binOp .quo 3 (.tmp 39) (.tmp 40) 3, none⟩, .p) <| .c (⟨some 43, .fieldAddr 31 (.tmp 7) 2, none⟩, .p) <| .t (.c (⟨some 38, .load 28 (.tmp 37), none⟩, .e) <| .t (.c (⟨some 42, .call { callee := .value (.func 58), args := #[.tmp 41], argTypes := #[3] }, none⟩, .f) <| .c (⟨some 44, .load 29 (.tmp 43), none⟩, .e) <| .c (⟨some 45, .call { callee := .value (.func 86), args := #[.tmp 38, .const (.int .i64 1), .tmp 42, .tmp 44], argTypes := #[28, 3, 31, 29] }, none⟩, .e) <| .c (⟨some 36, .move (.tmp 45), none⟩, .p) <| .c (⟨some 46, .extract (.tmp 36) 0, none⟩, .p) <| .c (⟨some 47, .extract (.tmp 36) 1, none⟩, .p) <| .c (⟨some 8, .assign (.tmp 46), none⟩, .p) <| .c (⟨some 9, .assign (.tmp 47), none⟩, .p) <| .n) (.c (⟨some 44, .load 29 (.tmp 43), none⟩, .e) <| .c (⟨some 42, .call { callee := .value (.func 58), args := #[.tmp 41], argTypes := #[3] }, none⟩, .f) <| .c (⟨some 45, .call { callee := .value (.func 86), args := #[.tmp 38, .const (.int .i64 1), .tmp 42, .tmp 44], argTypes := #[28, 3, 31, 29] }, none⟩, .e) <| .c (⟨some 36, .move (.tmp 45), none⟩, .p) <| .c (⟨some 46, .extract (.tmp 36) 0, none⟩, .p) <| .c (⟨some 47, .extract (.tmp 36) 1, none⟩, .p) <| .c (⟨some 8, .assign (.tmp 46), none⟩, .p) <| .c (⟨some 9, .assign (.tmp 47), none⟩, .p) <| .n)) (.t (.c (⟨some 42, .call { callee := .value (.func 58), args := #[.tmp 41], argTypes := #[3] }, none⟩, .f) <| .t (.c (⟨some 38, .load 28 (.tmp 37), none⟩, .e) <| .c (⟨some 44, .load 29 (.tmp 43), none⟩, .e) <| .c (⟨some 45, .call { callee := .value (.func 86), args := #[.tmp 38, .const (.int .i64 1), .tmp 42, .tmp 44], argTypes := #[28, 3, 31, 29] }, none⟩, .e) <| .c (⟨some 36, .move (.tmp 45), none⟩, .p) <| .c (⟨some 46, .extract (.tmp 36) 0, none⟩, .p) <| .c (⟨some 47, .extract (.tmp 36) 1, none⟩, .p) <| .c (⟨some 8, .assign (.tmp 46), none⟩, .p) <| .c (⟨some 9, .assign (.tmp 47), none⟩, .p) <| .n) (.c (⟨some 44, .load 29 (.tmp 43), none⟩, .e) <| .c (⟨some 38, .load 28 (.tmp 37), none⟩, .e) <| .c (⟨some 45, .call { callee := .value (.func 86), args := #[.tmp 38, .const (.int .i64 1), .tmp 42, .tmp 44], argTypes := #[28, 3, 31, 29] }, none⟩, .e) <| .c (⟨some 36, .move (.tmp 45), none⟩, .p) <| .c (⟨some 46, .extract (.tmp 36) 0, none⟩, .p) <| .c (⟨some 47, .extract (.tmp 36) 1, none⟩, .p) <| .c (⟨some 8, .assign (.tmp 46), none⟩, .p) <| .c (⟨some 9, .assign (.tmp 47), none⟩, .p) <| .n)) (.c (⟨some 44, .load 29 (.tmp 43), none⟩, .e) <| .t (.c (⟨some 38, .load 28 (.tmp 37), none⟩, .e) <| .c (⟨some 42, .call { callee := .value (.func 58), args := #[.tmp 41], argTypes := #[3] }, none⟩, .f) <| .c (⟨some 45, .call { callee := .value (.func 86), args := #[.tmp 38, .const (.int .i64 1), .tmp 42, .tmp 44], argTypes := #[28, 3, 31, 29] }, none⟩, .e) <| .c (⟨some 36, .move (.tmp 45), none⟩, .p) <| .c (⟨some 46, .extract (.tmp 36) 0, none⟩, .p) <| .c (⟨some 47, .extract (.tmp 36) 1, none⟩, .p) <| .c (⟨some 8, .assign (.tmp 46), none⟩, .p) <| .c (⟨some 9, .assign (.tmp 47), none⟩, .p) <| .n) (.c (⟨some 42, .call { callee := .value (.func 58), args := #[.tmp 41], argTypes := #[3] }, none⟩, .f) <| .c (⟨some 38, .load 28 (.tmp 37), none⟩, .e) <| .c (⟨some 45, .call { callee := .value (.func 86), args := #[.tmp 38, .const (.int .i64 1), .tmp 42, .tmp 44], argTypes := #[28, 3, 31, 29] }, none⟩, .e) <| .c (⟨some 36, .move (.tmp 45), none⟩, .p) <| .c (⟨some 46, .extract (.tmp 36) 0, none⟩, .p) <| .c (⟨some 47, .extract (.tmp 36) 1, none⟩, .p) <| .c (⟨some 8, .assign (.tmp 46), none⟩, .p) <| .c (⟨some 9, .assign (.tmp 47), none⟩, .p) <| .n)))) Q a) : LI Try.prog h0 L (.raw (.region id rg58_1 true)) Q a :=
  LI_drawK (.c (0, .p) <| .c (2, .p) <| .c (3, .p) <| .c (4, .p) <| .c (6, .p) <| .t (.c (1, .e) <| .t (.c (5, .f) <| .c (7, .e) <| .c (8, .e) <| .c (9, .p) <| .c (10, .p) <| .c (11, .p) <| .c (12, .p) <| .c (13, .p) <| .n) (.c (7, .e) <| .c (5, .f) <| .c (8, .e) <| .c (9, .p) <| .c (10, .p) <| .c (11, .p) <| .c (12, .p) <| .c (13, .p) <| .n)) (.t (.c (5, .f) <| .t (.c (1, .e) <| .c (7, .e) <| .c (8, .e) <| .c (9, .p) <| .c (10, .p) <| .c (11, .p) <| .c (12, .p) <| .c (13, .p) <| .n) (.c (7, .e) <| .c (1, .e) <| .c (8, .e) <| .c (9, .p) <| .c (10, .p) <| .c (11, .p) <| .c (12, .p) <| .c (13, .p) <| .n)) (.c (7, .e) <| .t (.c (1, .e) <| .c (5, .f) <| .c (8, .e) <| .c (9, .p) <| .c (10, .p) <| .c (11, .p) <| .c (12, .p) <| .c (13, .p) <| .n) (.c (5, .f) <| .c (1, .e) <| .c (8, .e) <| .c (9, .p) <| .c (10, .p) <| .c (11, .p) <| .c (12, .p) <| .c (13, .p) <| .n)))) [5] K hK (by kernel_rfl) (by kernel_rfl) (by kernel_rfl) H
theorem dr58_1 (m : Nat) {Q : Exit → List AV → AH → Prop} {a : List AV} {h : AH} {id : Nat} (H : AX Try.prog m h [(⟨some 37, .fieldAddr 31 (.tmp 7) 1, none⟩, true),
  (⟨some 38, .load 28 (.tmp 37), none⟩, true),
  (⟨some 39, .move (.tmp 0), none⟩, true),
  (⟨some 40, .move (.tmp 3), none⟩, true),
  (⟨some 41, .binOp .quo 3 (.tmp 39) (.tmp 40) 3, none⟩, true),
  (⟨some 43, .fieldAddr 31 (.tmp 7) 2, none⟩, true),
  (⟨some 44, .load 29 (.tmp 43), none⟩, true),
  (⟨some 42, .call { callee := .value (.func 58), args := #[.tmp 41], argTypes := #[3] }, none⟩, false),
  (⟨some 45, .call { callee := .value (.func 86), args := #[.tmp 38, .const (.int .i64 1), .tmp 42, .tmp 44], argTypes := #[28, 3, 31, 29] }, none⟩, false),
  (⟨some 36, .move (.tmp 45), none⟩, true),
  (⟨some 46, .extract (.tmp 36) 0, none⟩, true),
  (⟨some 47, .extract (.tmp 36) 1, none⟩, true),
  (⟨some 8, .assign (.tmp 46), none⟩, true),
  (⟨some 9, .assign (.tmp 47), none⟩, true)] (fun a' h' => Q .normal a' h') a h) : AI Try.prog (.raw (.region id rg58_1 true)) Q a h :=
  AI_draw [(0, true), (1, true), (2, true), (3, true), (4, true), (6, true), (7, true), (5, false), (8, false), (9, true), (10, true), (11, true), (12, true), (13, true)] m (by kernel_rfl) (by kernel_rfl) (by kernel_rfl) H

/-- spec.FactorCost -/
def c17 : IC :=
  (.seq
  (.reg [
    ⟨some 2, .assign (.const (.int .i64 0)), none⟩,
    ⟨some 3, .assign (.const (.bool false)), none⟩])
  (.seq
  (.seq
  (.reg [
    ⟨some 4, .move (.tmp 0), none⟩,
    ⟨some 5, .call { callee := .value (.func 56), args := #[.tmp 4], argTypes := #[3] }, none⟩,
    ⟨some 6, .unOp .not 4 (.tmp 5), none⟩])
  (.cond (.tmp 6)
    (.seq
    (.reg [
      ⟨some 2, .assign (.const (.int .i64 0)), none⟩,
      ⟨some 3, .assign (.const (.bool false)), none⟩])
    .ret)
    .skip))
  (.seq
  (.reg [
    ⟨some 7, .move (.tmp 0), none⟩,
    ⟨some 8, .call { callee := .value (.func 58), args := #[.tmp 7], argTypes := #[3] }, none⟩,
    ⟨some 9, .field 31 (.tmp 8) 1, none⟩,
    ⟨some 10, .call { callee := .builtin .len, args := #[.tmp 9], argTypes := #[28] }, none⟩,
    ⟨some 2, .assign (.tmp 10), none⟩,
    ⟨some 3, .assign (.const (.bool true)), none⟩])
  .ret)))
theorem hd17 : Try.f17.body.map dec = some c17 := by kernel_rfl
theorem e17 {R : AV → AH → Prop} {h : AH} (x0 : AV) (H : h.wf → AI Try.prog c17 (RetQ Try.prog [.tmp 2, .tmp 3] R) [x0, un, un, un, un, un, un, un, un, un, un] h) : AC Try.prog 17 [x0] h R :=
  AC_of' (rs := [.tmp 2, .tmp 3]) Try.func17 (by kernel_rfl) hd17 Try.ntmps17 rfl H

/-- impl.in -/
def c104 : IC :=
  (.seq
  (.reg [
    ⟨some 6, .assign (.const (.bool false)), none⟩])
  (.seq
  (.reg [
    ⟨some 7, .move (.tmp 0), none⟩,
    ⟨some 8, .move (.tmp 1), none⟩,
    ⟨some 9, .binOp .geq 3 (.tmp 7) (.tmp 8) 3, none⟩,
    ⟨some 10, .move (.tmp 9), none⟩,
    ⟨some 11, .move (.tmp 0), some (10, true)⟩,
    ⟨some 12, .move (.tmp 2), some (10, true)⟩,
    ⟨some 13, .binOp .leq 3 (.tmp 11) (.tmp 12) 3, some (10, true)⟩,
    ⟨some 14, .pick (.tmp 10) (.tmp 13) (.const (.bool false)), none⟩,
    ⟨some 6, .assign (.tmp 14), none⟩])
  .ret))
theorem hd104 : Try.f104.body.map dec = some c104 := by kernel_rfl
theorem e104 {R : AV → AH → Prop} {h : AH} (x0 x1 x2 : AV) (H : h.wf → AI Try.prog c104 (RetQ Try.prog [.tmp 6] R) [x0, x1, x2, un, un, un, un, un, un, un, un, un, un, un, un] h) : AC Try.prog 104 [x0, x1, x2] h R :=
  AC_of' (rs := [.tmp 6]) Try.func104 (by kernel_rfl) hd104 Try.ntmps104 rfl H

/-- slices.IndexFunc[[]int,int] -/
def c143 : IC :=
  (.seq
  (.reg [
    ⟨some 4, .assign (.const (.int .i64 0)), none⟩])
  (.seq
  (.seq
  (.reg [
    ⟨some 6, .move (.tmp 0), none⟩,
    ⟨some 7, .call { callee := .builtin .len, args := #[.tmp 6], argTypes := #[29] }, none⟩,
    ⟨some 8, .move (.const (.int .i64 0)), none⟩])
  (.block 0
  (.loop
    (.seq
    (.reg [
      ⟨some 9, .binOp .lss 3 (.tmp 8) (.tmp 7) 3, none⟩])
    (.seq
    (.cond (.tmp 9)
      .skip
      (.exit 0))
    (.seq
    (.block 1
    (.seq
    (.reg [
      ⟨some 10, .move (.tmp 8), none⟩,
      ⟨some 5, .assign (.tmp 10), none⟩])
    (.seq
    (.reg [
      ⟨some 11, .move (.tmp 1), none⟩,
      ⟨some 12, .move (.tmp 0), none⟩,
      ⟨some 13, .move (.tmp 5), none⟩,
      ⟨some 14, .indexAddr 29 (.tmp 12) (.tmp 13), none⟩,
      ⟨some 15, .load 3 (.tmp 14), none⟩,
      ⟨some 16, .call { callee := .value (.tmp 11), args := #[.tmp 15], argTypes := #[3] }, none⟩])
    (.cond (.tmp 16)
      (.seq
      (.reg [
        ⟨some 17, .move (.tmp 5), none⟩,
        ⟨some 4, .assign (.tmp 17), none⟩])
      .ret)
      .skip))))
    (.reg [
      ⟨some 18, .binOp .add 3 (.tmp 8) (.const (.int .i64 1)) 3, none⟩,
      ⟨some 8, .move (.tmp 18), none⟩])))))))
  (.seq
  (.reg [
    ⟨some 4, .assign (.const (.int .i64 (-1))), none⟩])
  .ret)))
theorem hd143 : Try.f143.body.map dec = some c143 := by kernel_rfl
theorem e143 {R : AV → AH → Prop} {h : AH} (x0 x1 : AV) (H : h.wf → AI Try.prog c143 (RetQ Try.prog [.tmp 4] R) [x0, x1, un, un, un, un, un, un, un, un, un, un, un, un, un, un, un, un, un] h) : AC Try.prog 143 [x0, x1] h R :=
  AC_of' (rs := [.tmp 4]) Try.func143 (by kernel_rfl) hd143 Try.ntmps143 rfl H

/-- slices.ContainsFunc[[]int,int] -/
def c105 : IC :=
  (.seq
  (.reg [
    ⟨some 4, .assign (.const (.bool false)), none⟩])
  (.seq
  (.reg [
    ⟨some 5, .move (.tmp 0), none⟩,
    ⟨some 6, .move (.tmp 1), none⟩,
    ⟨some 7, .call { callee := .value (.func 143), args := #[.tmp 5, .tmp 6], argTypes := #[29, 24] }, none⟩,
    ⟨some 8, .binOp .geq 3 (.tmp 7) (.const (.int .i64 0)) 3, none⟩,
    ⟨some 4, .assign (.tmp 8), none⟩])
  .ret))
theorem hd105 : Try.f105.body.map dec = some c105 := by kernel_rfl
theorem e105 {R : AV → AH → Prop} {h : AH} (x0 x1 : AV) (H : h.wf → AI Try.prog c105 (RetQ Try.prog [.tmp 4] R) [x0, x1, un, un, un, un, un, un, un] h) : AC Try.prog 105 [x0, x1] h R :=
  AC_of' (rs := [.tmp 4]) Try.func105 (by kernel_rfl) hd105 Try.ntmps105 rfl H

noncomputable def rg115_0 : Array Oper := rawAt Try.f115 0
/-- (*impl.Plan).many -/
noncomputable def c115 : IC :=
  (.seq
  (.reg [
    ⟨some 2, .assign (.const (.int .i64 0)), none⟩])
  (.seq
  (.raw (.region 1 rg115_0 true))
  .ret))
theorem hd115 : Try.f115.body.map dec = some c115 := by kernel_rfl
theorem e115 {R : AV → AH → Prop} {h : AH} (x0 : AV) (H : h.wf → AI Try.prog c115 (RetQ Try.prog [.tmp 2] R) [x0, un, un, un, un, un, un, un, un, un, un, un, un] h) : AC Try.prog 115 [x0] h R :=
  AC_of' (rs := [.tmp 2]) Try.func115 (by kernel_rfl) hd115 Try.ntmps115 rfl H
theorem dz115_0 {h0 : AH} {L : List It} {Q : Exit → List AV → List It → Prop} {a : List AV} {id : Nat} (H : LX Try.prog ⟨[], []⟩ h0 L L (.c (⟨some 3, .move (.tmp 0), none⟩, .p) <| .c (⟨some 4, .nilCheck (.tmp 3), none⟩, .p) <| .c (⟨some 5, .fieldAddr 31 (.tmp 4) 0, none⟩, .p) <| .c (⟨some 6, .load 3 (.tmp 5), none⟩, .l) <| .c (⟨some 7, .move (.tmp 0), none⟩, .p) <| .c (⟨some 8, .nilCheck (.tmp 7), none⟩, .p) <| .c (⟨some 9, .fieldAddr 31 (.tmp 8) 1, none⟩, .p) <| .c (⟨some 10, .load 28 (.tmp 9), none⟩, .l) <| .c (⟨some 11, .call { callee := .builtin .len, args := #[.tmp 10], argTypes := #[28] }, none⟩, .p) <| .c (⟨some 12, .binOp .add 3 (.tmp 6) (.tmp 11) 3, none⟩, .p) <| .c (⟨some 2, .assign (.tmp 12), none⟩, .p) <| .n) Q a) : LI Try.prog h0 L (.raw (.region id rg115_0 true)) Q a :=
  LI_draw (.c (0, .p) <| .c (1, .p) <| .c (2, .p) <| .c (3, .l) <| .c (4, .p) <| .c (5, .p) <| .c (6, .p) <| .c (7, .l) <| .c (8, .p) <| .c (9, .p) <| .c (10, .p) <| .n) [] (by kernel_rfl) (by kernel_rfl) (by kernel_rfl) H
theorem dr115_0 (m : Nat) {Q : Exit → List AV → AH → Prop} {a : List AV} {h : AH} {id : Nat} (H : AX Try.prog m h [(⟨some 3, .move (.tmp 0), none⟩, true),
  (⟨some 4, .nilCheck (.tmp 3), none⟩, true),
  (⟨some 5, .fieldAddr 31 (.tmp 4) 0, none⟩, true),
  (⟨some 6, .load 3 (.tmp 5), none⟩, true),
  (⟨some 7, .move (.tmp 0), none⟩, true),
  (⟨some 8, .nilCheck (.tmp 7), none⟩, true),
  (⟨some 9, .fieldAddr 31 (.tmp 8) 1, none⟩, true),
  (⟨some 10, .load 28 (.tmp 9), none⟩, true),
  (⟨some 11, .call { callee := .builtin .len, args := #[.tmp 10], argTypes := #[28] }, none⟩, true),
  (⟨some 12, .binOp .add 3 (.tmp 6) (.tmp 11) 3, none⟩, true),
  (⟨some 2, .assign (.tmp 12), none⟩, true)] (fun a' h' => Q .normal a' h') a h) : AI Try.prog (.raw (.region id rg115_0 true)) Q a h :=
  AI_draw [(0, true), (1, true), (2, true), (3, true), (4, true), (5, true), (6, true), (7, true), (8, true), (9, true), (10, true)] m (by kernel_rfl) (by kernel_rfl) (by kernel_rfl) H

/-- (*impl.Plan).formed$1 -/
def c156 : IC :=
  (.seq
  (.reg [
    ⟨some 3, .assign (.const (.bool false)), none⟩])
  (.seq
  (.reg [
    ⟨some 4, .move (.tmp 0), none⟩,
    ⟨some 5, .load 87 (.tmp 1), none⟩,
    ⟨some 6, .call { callee := .value (.func 115), args := #[.tmp 5], argTypes := #[87] }, none⟩,
    ⟨some 7, .binOp .sub 3 (.tmp 6) (.const (.int .i64 1)) 3, none⟩,
    ⟨some 8, .call { callee := .value (.func 104), args := #[.tmp 4, .const (.int .i64 0), .tmp 7], argTypes := #[3, 3, 3] }, none⟩,
    ⟨some 9, .unOp .not 4 (.tmp 8), none⟩,
    ⟨some 3, .assign (.tmp 9), none⟩])
  .ret))
theorem hd156 : Try.f156.body.map dec = some c156 := by kernel_rfl
theorem e156 {R : AV → AH → Prop} {h : AH} (x0 x1 : AV) (H : h.wf → AI Try.prog c156 (RetQ Try.prog [.tmp 3] R) [x0, x1, un, un, un, un, un, un, un, un] h) : AC Try.prog 156 [x0, x1] h R :=
  AC_of' (rs := [.tmp 3]) Try.func156 (by kernel_rfl) hd156 Try.ntmps156 rfl H

noncomputable def rg131_0 : Array Oper := rawAt Try.f131 0
-- NO ORDER
/-- (*impl.Plan).formed -/
noncomputable def c131 : IC :=
  (.seq
  (.reg [
    ⟨some 1, .box 87 (.tmp 0), none⟩,
    ⟨some 2, .assign (.const (.bool false)), none⟩])
  (.seq
  (.seq
  (.reg [
    ⟨some 5, .load 87 (.tmp 1), none⟩,
    ⟨some 6, .nilCheck (.tmp 5), none⟩,
    ⟨some 7, .fieldAddr 31 (.tmp 6) 0, none⟩,
    ⟨some 8, .load 3 (.tmp 7), none⟩,
    ⟨some 9, .call { callee := .value (.func 104), args := #[.tmp 8, .const (.int .i64 1), .const (.int .i64 6)], argTypes := #[3, 3, 3] }, none⟩,
    ⟨some 10, .unOp .not 4 (.tmp 9), none⟩,
    ⟨some 11, .move (.tmp 10), none⟩,
    ⟨some 12, .load 87 (.tmp 1), some (11, false)⟩,
    ⟨some 13, .nilCheck (.tmp 12), some (11, false)⟩,
    ⟨some 14, .fieldAddr 31 (.tmp 13) 1, some (11, false)⟩,
    ⟨some 15, .load 28 (.tmp 14), some (11, false)⟩,
    ⟨some 16, .call { callee := .builtin .len, args := #[.tmp 15], argTypes := #[28] }, some (11, false)⟩,
    ⟨some 17, .binOp .gtr 3 (.tmp 16) (.const (.int .i64 40)) 3, some (11, false)⟩,
    ⟨some 18, .pick (.tmp 11) (.const (.bool true)) (.tmp 17), none⟩,
    ⟨some 19, .move (.tmp 18), none⟩,
    ⟨some 20, .load 87 (.tmp 1), some (19, false)⟩,
    ⟨some 21, .nilCheck (.tmp 20), some (19, false)⟩,
    ⟨some 22, .fieldAddr 31 (.tmp 21) 2, some (19, false)⟩,
    ⟨some 23, .load 29 (.tmp 22), some (19, false)⟩,
    ⟨some 24, .call { callee := .builtin .len, args := #[.tmp 23], argTypes := #[29] }, some (19, false)⟩,
    ⟨some 25, .binOp .gtr 3 (.tmp 24) (.const (.int .i64 6)) 3, some (19, false)⟩,
    ⟨some 26, .pick (.tmp 19) (.const (.bool true)) (.tmp 25), none⟩])
  (.cond (.tmp 26)
    (.seq
    (.reg [
      ⟨some 2, .assign (.const (.bool false)), none⟩])
    .ret)
    .skip))
  (.seq
  (.seq
  (.reg [
    ⟨some 27, .load 87 (.tmp 1), none⟩,
    ⟨some 28, .nilCheck (.tmp 27), none⟩,
    ⟨some 29, .fieldAddr 31 (.tmp 28) 1, none⟩,
    ⟨some 30, .load 28 (.tmp 29), none⟩,
    ⟨some 31, .call { callee := .builtin .len, args := #[.tmp 30], argTypes := #[28] }, none⟩,
    ⟨some 32, .move (.const (.int .i64 0)), none⟩])
  (.block 0
  (.loop
    (.seq
    (.reg [
      ⟨some 33, .binOp .lss 3 (.tmp 32) (.tmp 31) 3, none⟩])
    (.seq
    (.cond (.tmp 33)
      .skip
      (.exit 0))
    (.seq
    (.block 1
    (.seq
    (.reg [
      ⟨some 34, .move (.tmp 32), none⟩,
      ⟨some 35, .indexAddr 28 (.tmp 30) (.tmp 32), none⟩,
      ⟨some 36, .load 108 (.tmp 35), none⟩,
      ⟨some 4, .alloc 108, none⟩,
      ⟨some 3, .assign (.tmp 34), none⟩,
      ⟨none, .store 108 (.tmp 4) (.tmp 36), none⟩])
    (.seq
    (.raw (.region 6 rg131_0 true))
    (.cond (.tmp 57)
      (.seq
      (.reg [
        ⟨some 2, .assign (.const (.bool false)), none⟩])
      .ret)
      .skip))))
    (.reg [
      ⟨some 58, .binOp .add 3 (.tmp 32) (.const (.int .i64 1)) 3, none⟩,
      ⟨some 32, .move (.tmp 58), none⟩])))))))
  (.seq
  (.reg [
    ⟨some 59, .load 87 (.tmp 1), none⟩,
    ⟨some 60, .nilCheck (.tmp 59), none⟩,
    ⟨some 61, .fieldAddr 31 (.tmp 60) 2, none⟩,
    ⟨some 62, .load 29 (.tmp 61), none⟩,
    ⟨some 63, .makeFunc (.func 156) #[] #[.tmp 1], none⟩,
    ⟨some 64, .call { callee := .value (.func 105), args := #[.tmp 62, .tmp 63], argTypes := #[29, 24] }, none⟩,
    ⟨some 65, .unOp .not 4 (.tmp 64), none⟩,
    ⟨some 2, .assign (.tmp 65), none⟩])
  .ret))))
theorem hd131 : Try.f131.body.map dec = some c131 := by kernel_rfl
theorem e131 {R : AV → AH → Prop} {h : AH} (x0 : AV) (H : h.wf → AI Try.prog c131 (RetQ Try.prog [.tmp 2] R) [x0, un, un, un, un, un, un, un, un, un, un, un, un, un, un, un, un, un, un, un, un, un, un, un, un, un, un, un, un, un, un, un, un, un, un, un, un, un, un, un, un, un, un, un, un, un, un, un, un, un, un, un, un, un, un, un, un, un, un, un, un, un, un, un, un, un] h) : AC Try.prog 131 [x0] h R :=
  AC_of' (rs := [.tmp 2]) Try.func131 (by kernel_rfl) hd131 Try.ntmps131 rfl H
theorem dz131_0 {h0 : AH} {L : List It} {Q : Exit → List AV → List It → Prop} {a : List AV} {id : Nat} (H : LX Try.prog ⟨[], []⟩ h0 L L (.c (⟨some 37, .fieldAddr 108 (.tmp 4) 0, none⟩, .p) <| .c (⟨some 38, .load 3 (.tmp 37), none⟩, .l) <| .c (⟨some 39, .binOp .lss 3 (.tmp 38) (.const (.int .i64 0)) 3, none⟩, .p) <| .c (⟨some 40, .move (.tmp 39), none⟩, .p) <| .c (⟨some 41, .fieldAddr 108 (.tmp 4) 0, some (40, false)⟩, .p) <| .c (⟨some 42, .load 3 (.tmp 41), some (40, false)⟩, .l) <| .c (⟨some 43, .fieldAddr 108 (.tmp 4) 1, some (40, false)⟩, .p) <| .c (⟨some 44, .load 3 (.tmp 43), some (40, false)⟩, .l) <| .c (⟨some 45, .binOp .gtr 3 (.tmp 42) (.tmp 44) 3, some (40, false)⟩, .p) <| .c (⟨some 46, .pick (.tmp 40) (.const (.bool true)) (.tmp 45), none⟩, .p) <| .c (⟨some 47, .move (.tmp 46), none⟩, .p) <| .c (⟨some 48, .fieldAddr 108 (.tmp 4) 1, some (47, false)⟩, .p) <| .c (⟨some 49, .load 3 (.tmp 48), some (47, false)⟩, .l) <| .c (⟨some 50, .load 87 (.tmp 1), some (47, false)⟩, .l) <| .c (⟨some 51, .nilCheck (.tmp 50), some (47, false)⟩, .p) <| .c (⟨some 52, .fieldAddr 31 (.tmp 51) 0, some (47, false)⟩, .p) <| .c (⟨some 53, .load 3 (.tmp 52), some (47, false)⟩, .l) <| .c (⟨some 54, .move (.tmp 3), some (47, false)⟩, .p) <| .c (⟨some 55, .binOp .add 3 (.tmp 53) (.tmp 54) 3, some (47, false)⟩, .p) <| .c (⟨some 56, .binOp .geq 3 (.tmp 49) (.tmp 55) 3, some (47, false)⟩, .p) <| .c (⟨some 57, .pick (.tmp 47) (.const (.bool true)) (.tmp 56), none⟩, .p) <| .n) Q a) : LI Try.prog h0 L (.raw (.region id rg131_0 true)) Q a :=
  LI_draw (.c (0, .p) <| .c (1, .l) <| .c (2, .p) <| .c (3, .p) <| .c (4, .p) <| .c (5, .l) <| .c (6, .p) <| .c (7, .l) <| .c (8, .p) <| .c (9, .p) <| .c (10, .p) <| .c (11, .p) <| .c (12, .l) <| .c (13, .l) <| .c (14, .p) <| .c (15, .p) <| .c (16, .l) <| .c (17, .p) <| .c (18, .p) <| .c (19, .p) <| .c (20, .p) <| .n) [] (by kernel_rfl) (by kernel_rfl) (by kernel_rfl) H

/-- slices.IndexFunc[[][]int,[]int] -/
def c157 : IC :=
  (.seq
  (.reg [
    ⟨some 4, .assign (.const (.int .i64 0)), none⟩])
  (.seq
  (.seq
  (.reg [
    ⟨some 6, .move (.tmp 0), none⟩,
    ⟨some 7, .call { callee := .builtin .len, args := #[.tmp 6], argTypes := #[39] }, none⟩,
    ⟨some 8, .move (.const (.int .i64 0)), none⟩])
  (.block 0
  (.loop
    (.seq
    (.reg [
      ⟨some 9, .binOp .lss 3 (.tmp 8) (.tmp 7) 3, none⟩])
    (.seq
    (.cond (.tmp 9)
      .skip
      (.exit 0))
    (.seq
    (.block 1
    (.seq
    (.reg [
      ⟨some 10, .move (.tmp 8), none⟩,
      ⟨some 5, .assign (.tmp 10), none⟩])
    (.seq
    (.reg [
      ⟨some 11, .move (.tmp 1), none⟩,
      ⟨some 12, .move (.tmp 0), none⟩,
      ⟨some 13, .move (.tmp 5), none⟩,
      ⟨some 14, .indexAddr 39 (.tmp 12) (.tmp 13), none⟩,
      ⟨some 15, .load 29 (.tmp 14), none⟩,
      ⟨some 16, .call { callee := .value (.tmp 11), args := #[.tmp 15], argTypes := #[29] }, none⟩])
    (.cond (.tmp 16)
      (.seq
      (.reg [
        ⟨some 17, .move (.tmp 5), none⟩,
        ⟨some 4, .assign (.tmp 17), none⟩])
      .ret)
      .skip))))
    (.reg [
      ⟨some 18, .binOp .add 3 (.tmp 8) (.const (.int .i64 1)) 3, none⟩,
      ⟨some 8, .move (.tmp 18), none⟩])))))))
  (.seq
  (.reg [
    ⟨some 4, .assign (.const (.int .i64 (-1))), none⟩])
  .ret)))
theorem hd157 : Try.f157.body.map dec = some c157 := by kernel_rfl
theorem e157 {R : AV → AH → Prop} {h : AH} (x0 x1 : AV) (H : h.wf → AI Try.prog c157 (RetQ Try.prog [.tmp 4] R) [x0, x1, un, un, un, un, un, un, un, un, un, un, un, un, un, un, un, un, un] h) : AC Try.prog 157 [x0, x1] h R :=
  AC_of' (rs := [.tmp 4]) Try.func157 (by kernel_rfl) hd157 Try.ntmps157 rfl H

/-- slices.ContainsFunc[[][]int,[]int] -/
def c132 : IC :=
  (.seq
  (.reg [
    ⟨some 4, .assign (.const (.bool false)), none⟩])
  (.seq
  (.reg [
    ⟨some 5, .move (.tmp 0), none⟩,
    ⟨some 6, .move (.tmp 1), none⟩,
    ⟨some 7, .call { callee := .value (.func 157), args := #[.tmp 5, .tmp 6], argTypes := #[39, 54] }, none⟩,
    ⟨some 8, .binOp .geq 3 (.tmp 7) (.const (.int .i64 0)) 3, none⟩,
    ⟨some 4, .assign (.tmp 8), none⟩])
  .ret))
theorem hd132 : Try.f132.body.map dec = some c132 := by kernel_rfl
theorem e132 {R : AV → AH → Prop} {h : AH} (x0 x1 : AV) (H : h.wf → AI Try.prog c132 (RetQ Try.prog [.tmp 4] R) [x0, x1, un, un, un, un, un, un, un] h) : AC Try.prog 132 [x0, x1] h R :=
  AC_of' (rs := [.tmp 4]) Try.func132 (by kernel_rfl) hd132 Try.ntmps132 rfl H

/-- (*impl.Plan).exponents -/
def c133 : IC :=
  (.seq
  (.reg [
    ⟨some 2, .assign (.const (.slice none 0 0)), none⟩])
  (.seq
  (.reg [
    ⟨some 11, .buildSlice 39 0 #[], none⟩,
    ⟨some 3, .assign (.tmp 11), none⟩])
  (.seq
  (.seq
  (.reg [
    ⟨some 12, .move (.tmp 0), none⟩,
    ⟨some 13, .nilCheck (.tmp 12), none⟩,
    ⟨some 14, .fieldAddr 31 (.tmp 13) 0, none⟩,
    ⟨some 15, .load 3 (.tmp 14), none⟩,
    ⟨some 16, .move (.const (.int .i64 0)), none⟩])
  (.block 0
  (.loop
    (.seq
    (.reg [
      ⟨some 17, .binOp .lss 3 (.tmp 16) (.tmp 15) 3, none⟩])
    (.seq
    (.cond (.tmp 17)
      .skip
      (.exit 0))
    (.seq
    (.block 1
    (.seq
    (.reg [
      ⟨some 18, .move (.tmp 16), none⟩,
      ⟨some 4, .assign (.tmp 18), none⟩])
    (.seq
    (.reg [
      ⟨some 19, .move (.tmp 0), none⟩,
      ⟨some 20, .nilCheck (.tmp 19), none⟩,
      ⟨some 21, .fieldAddr 31 (.tmp 20) 0, none⟩,
      ⟨some 22, .load 3 (.tmp 21), none⟩,
      ⟨some 23, .makeSlice 29 (.tmp 22) (.tmp 22), none⟩,
      ⟨some 5, .assign (.tmp 23), none⟩])
    (.seq
    (.reg [
      ⟨some 24, .move (.tmp 5), none⟩,
      ⟨some 25, .move (.tmp 4), none⟩,
      ⟨some 26, .indexAddr 29 (.tmp 24) (.tmp 25), none⟩,
      ⟨none, .store 3 (.tmp 26) (.const (.int .i64 1)), none⟩])
    (.reg [
      ⟨some 27, .move (.tmp 3), none⟩,
      ⟨some 28, .move (.tmp 5), none⟩,
      ⟨some 29, .buildSlice 39 1 #[(0, .tmp 28)], none⟩,
      ⟨some 30, .call { callee := .builtin .append, args := #[.tmp 27, .tmp 29], argTypes := #[39, 39] }, none⟩,
      ⟨some 3, .assign (.tmp 30), none⟩])))))
    (.reg [
      ⟨some 31, .binOp .add 3 (.tmp 16) (.const (.int .i64 1)) 3, none⟩,
      ⟨some 16, .move (.tmp 31), none⟩])))))))
  (.seq
  (.seq
  (.reg [
    ⟨some 32, .move (.tmp 0), none⟩,
    ⟨some 33, .nilCheck (.tmp 32), none⟩,
    ⟨some 34, .fieldAddr 31 (.tmp 33) 1, none⟩,
    ⟨some 35, .load 28 (.tmp 34), none⟩,
    ⟨some 36, .call { callee := .builtin .len, args := #[.tmp 35], argTypes := #[28] }, none⟩,
    ⟨some 37, .move (.const (.int .i64 0)), none⟩])
  (.block 2
  (.loop
    (.seq
    (.reg [
      ⟨some 38, .binOp .lss 3 (.tmp 37) (.tmp 36) 3, none⟩])
    (.seq
    (.cond (.tmp 38)
      .skip
      (.exit 2))
    (.seq
    (.block 3
    (.seq
    (.reg [
      ⟨some 39, .indexAddr 28 (.tmp 35) (.tmp 37), none⟩,
      ⟨some 40, .load 108 (.tmp 39), none⟩,
      ⟨some 7, .alloc 108, none⟩,
      ⟨none, .store 108 (.tmp 7) (.tmp 40), none⟩])
    (.seq
    (.reg [
      ⟨some 41, .buildSlice 29 0 #[], none⟩,
      ⟨some 8, .assign (.tmp 41), none⟩])
    (.seq
    (.seq
    (.reg [
      ⟨some 42, .move (.tmp 3), none⟩,
      ⟨some 43, .fieldAddr 108 (.tmp 7) 0, none⟩,
      ⟨some 44, .load 3 (.tmp 43), none⟩,
      ⟨some 45, .indexAddr 39 (.tmp 42) (.tmp 44), none⟩,
      ⟨some 46, .load 29 (.tmp 45), none⟩,
      ⟨some 47, .call { callee := .builtin .len, args := #[.tmp 46], argTypes := #[29] }, none⟩,
      ⟨some 48, .move (.const (.int .i64 0)), none⟩])
    (.block 4
    (.loop
      (.seq
      (.reg [
        ⟨some 49, .binOp .lss 3 (.tmp 48) (.tmp 47) 3, none⟩])
      (.seq
      (.cond (.tmp 49)
        .skip
        (.exit 4))
      (.seq
      (.block 5
      (.seq
      (.reg [
        ⟨some 50, .move (.tmp 48), none⟩,
        ⟨some 51, .indexAddr 29 (.tmp 46) (.tmp 48), none⟩,
        ⟨some 52, .load 3 (.tmp 51), none⟩,
        ⟨some 9, .assign (.tmp 50), none⟩,
        ⟨some 10, .assign (.tmp 52), none⟩])
      (.reg [
        ⟨some 53, .move (.tmp 8), none⟩,
        ⟨some 54, .move (.tmp 10), none⟩,
        ⟨some 55, .move (.tmp 3), none⟩,
        ⟨some 56, .fieldAddr 108 (.tmp 7) 1, none⟩,
        ⟨some 57, .load 3 (.tmp 56), none⟩,
        ⟨some 58, .indexAddr 39 (.tmp 55) (.tmp 57), none⟩,
        ⟨some 59, .load 29 (.tmp 58), none⟩,
        ⟨some 60, .move (.tmp 9), none⟩,
        ⟨some 61, .indexAddr 29 (.tmp 59) (.tmp 60), none⟩,
        ⟨some 62, .load 3 (.tmp 61), none⟩,
        ⟨some 63, .binOp .add 3 (.tmp 54) (.tmp 62) 3, none⟩,
        ⟨some 64, .call { callee := .builtin .min, args := #[.tmp 63, .const (.int .i64 1000001)], argTypes := #[3, 3] }, none⟩,
        ⟨some 65, .buildSlice 29 1 #[(0, .tmp 64)], none⟩,
        ⟨some 66, .call { callee := .builtin .append, args := #[.tmp 53, .tmp 65], argTypes := #[29, 29] }, none⟩,
        ⟨some 8, .assign (.tmp 66), none⟩])))
      (.reg [
        ⟨some 67, .binOp .add 3 (.tmp 48) (.const (.int .i64 1)) 3, none⟩,
        ⟨some 48, .move (.tmp 67), none⟩])))))))
    (.reg [
      ⟨some 68, .move (.tmp 3), none⟩,
      ⟨some 69, .move (.tmp 8), none⟩,
      ⟨some 70, .buildSlice 39 1 #[(0, .tmp 69)], none⟩,
      ⟨some 71, .call { callee := .builtin .append, args := #[.tmp 68, .tmp 70], argTypes := #[39, 39] }, none⟩,
      ⟨some 3, .assign (.tmp 71), none⟩])))))
    (.reg [
      ⟨some 72, .binOp .add 3 (.tmp 37) (.const (.int .i64 1)) 3, none⟩,
      ⟨some 37, .move (.tmp 72), none⟩])))))))
  (.seq
  (.reg [
    ⟨some 73, .move (.tmp 3), none⟩,
    ⟨some 2, .assign (.tmp 73), none⟩])
  .ret)))))
theorem hd133 : Try.f133.body.map dec = some c133 := by kernel_rfl
theorem e133 {R : AV → AH → Prop} {h : AH} (x0 : AV) (H : h.wf → AI Try.prog c133 (RetQ Try.prog [.tmp 2] R) [x0, un, un, un, un, un, un, un, un, un, un, un, un, un, un, un, un, un, un, un, un, un, un, un, un, un, un, un, un, un, un, un, un, un, un, un, un, un, un, un, un, un, un, un, un, un, un, un, un, un, un, un, un, un, un, un, un, un, un, un, un, un, un, un, un, un, un, un, un, un, un, un, un, un] h) : AC Try.prog 133 [x0] h R :=
  AC_of' (rs := [.tmp 2]) Try.func133 (by kernel_rfl) hd133 Try.ntmps133 rfl H

/-- slices.Max[[]int,int] -/
def c107 : IC :=
  (.seq
  (.reg [
    ⟨some 2, .assign (.const (.int .i64 0)), none⟩])
  (.seq
  (.seq
  (.reg [
    ⟨some 5, .move (.tmp 0), none⟩,
    ⟨some 6, .call { callee := .builtin .len, args := #[.tmp 5], argTypes := #[29] }, none⟩,
    ⟨some 7, .binOp .lss 3 (.tmp 6) (.const (.int .i64 1)) 3, none⟩])
  (.cond (.tmp 7)
    (.reg [
      ⟨some 8, .makeInterface 9 (.const (.string { data := #[115, 108, 105, 99, 101, 115, 46, 77, 97, 120, 58, 32, 101, 109, 112, 116, 121, 32, 108, 105, 115, 116] })), none⟩,
      ⟨none, .panic (.tmp 8), none⟩])
    .skip))
  (.seq
  (.reg [
    ⟨some 9, .move (.tmp 0), none⟩,
    ⟨some 10, .indexAddr 29 (.tmp 9) (.const (.int .i64 0)), none⟩,
    ⟨some 11, .load 3 (.tmp 10), none⟩,
    ⟨some 3, .assign (.tmp 11), none⟩])
  (.seq
  (.seq
  (.reg [
    ⟨some 4, .assign (.const (.int .i64 1)), none⟩])
  (.block 0
  (.loop
    (.seq
    (.seq
    (.reg [
      ⟨some 12, .move (.tmp 4), none⟩,
      ⟨some 13, .move (.tmp 0), none⟩,
      ⟨some 14, .call { callee := .builtin .len, args := #[.tmp 13], argTypes := #[29] }, none⟩,
      ⟨some 15, .binOp .lss 3 (.tmp 12) (.tmp 14) 3, none⟩])
    (.cond (.tmp 15)
      .skip
      (.exit 0)))
    (.seq
    (.block 1
    (.reg [
      ⟨some 18, .move (.tmp 3), none⟩,
      ⟨some 19, .move (.tmp 0), none⟩,
      ⟨some 20, .move (.tmp 4), none⟩,
      ⟨some 21, .indexAddr 29 (.tmp 19) (.tmp 20), none⟩,
      ⟨some 22, .load 3 (.tmp 21), none⟩,
      ⟨some 23, .call { callee := .builtin .max, args := #[.tmp 18, .tmp 22], argTypes := #[3, 3] }, none⟩,
      ⟨some 3, .assign (.tmp 23), none⟩]))
    (.reg [
      ⟨some 16, .move (.tmp 4), none⟩,
      ⟨some 17, .binOp .add 3 (.tmp 16) (.const (.int .i64 1)) 3, none⟩,
      ⟨some 4, .assign (.tmp 17), none⟩]))))))
  (.seq
  (.reg [
    ⟨some 24, .move (.tmp 3), none⟩,
    ⟨some 2, .assign (.tmp 24), none⟩])
  .ret)))))
theorem hd107 : Try.f107.body.map dec = some c107 := by kernel_rfl
theorem e107 {R : AV → AH → Prop} {h : AH} (x0 : AV) (H : h.wf → AI Try.prog c107 (RetQ Try.prog [.tmp 2] R) [x0, un, un, un, un, un, un, un, un, un, un, un, un, un, un, un, un, un, un, un, un, un, un, un, un] h) : AC Try.prog 107 [x0] h R :=
  AC_of' (rs := [.tmp 2]) Try.func107 (by kernel_rfl) hd107 Try.ntmps107 rfl H

/-- impl.IsPlan$1 -/
def c134 : IC :=
  (.seq
  (.reg [
    ⟨some 2, .assign (.const (.bool false)), none⟩])
  (.seq
  (.reg [
    ⟨some 3, .move (.tmp 0), none⟩,
    ⟨some 4, .call { callee := .value (.func 107), args := #[.tmp 3], argTypes := #[29] }, none⟩,
    ⟨some 5, .binOp .gtr 3 (.tmp 4) (.const (.int .i64 1000000)) 3, none⟩,
    ⟨some 2, .assign (.tmp 5), none⟩])
  .ret))
theorem hd134 : Try.f134.body.map dec = some c134 := by kernel_rfl
theorem e134 {R : AV → AH → Prop} {h : AH} (x0 : AV) (H : h.wf → AI Try.prog c134 (RetQ Try.prog [.tmp 2] R) [x0, un, un, un, un, un] h) : AC Try.prog 134 [x0] h R :=
  AC_of' (rs := [.tmp 2]) Try.func134 (by kernel_rfl) hd134 Try.ntmps134 rfl H

/-- impl.IsPlan -/
def c81 : IC :=
  (.seq
  (.reg [
    ⟨some 1, .box 31 (.tmp 0), none⟩,
    ⟨some 2, .assign (.const (.bool false)), none⟩])
  (.seq
  (.reg [
    ⟨some 3, .call { callee := .value (.func 131), args := #[.tmp 1], argTypes := #[31] }, none⟩,
    ⟨some 4, .move (.tmp 3), none⟩,
    ⟨some 5, .call { callee := .value (.func 133), args := #[.tmp 1], argTypes := #[31] }, some (4, true)⟩,
    ⟨some 6, .call { callee := .value (.func 132), args := #[.tmp 5, .func 134], argTypes := #[39, 54] }, some (4, true)⟩,
    ⟨some 7, .unOp .not 4 (.tmp 6), some (4, true)⟩,
    ⟨some 8, .pick (.tmp 4) (.tmp 7) (.const (.bool false)), none⟩,
    ⟨some 2, .assign (.tmp 8), none⟩])
  .ret))
theorem hd81 : Try.f81.body.map dec = some c81 := by kernel_rfl
theorem e81 {R : AV → AH → Prop} {h : AH} (x0 : AV) (H : h.wf → AI Try.prog c81 (RetQ Try.prog [.tmp 2] R) [x0, un, un, un, un, un, un, un, un] h) : AC Try.prog 81 [x0] h R :=
  AC_of' (rs := [.tmp 2]) Try.func81 (by kernel_rfl) hd81 Try.ntmps81 rfl H

/-- impl.told -/
def c68 : IC :=
  (.seq
  (.reg [
    ⟨some 1, .box 31 (.tmp 0), none⟩,
    ⟨some 2, .alloc 31, none⟩,
    ⟨some 3, .assign (.const (.bool false)), none⟩])
  (.seq
  (.seq
  (.reg [
    ⟨some 4, .load 31 (.tmp 1), none⟩,
    ⟨some 5, .call { callee := .value (.func 81), args := #[.tmp 4], argTypes := #[31] }, none⟩,
    ⟨some 6, .unOp .not 4 (.tmp 5), none⟩])
  (.cond (.tmp 6)
    (.seq
    (.reg [
      ⟨some 7, .build 31 #[], none⟩,
      ⟨none, .store 31 (.tmp 2) (.tmp 7), none⟩,
      ⟨some 3, .assign (.const (.bool false)), none⟩])
    .ret)
    .skip))
  (.seq
  (.reg [
    ⟨some 8, .load 31 (.tmp 1), none⟩,
    ⟨none, .store 31 (.tmp 2) (.tmp 8), none⟩,
    ⟨some 3, .assign (.const (.bool true)), none⟩])
  .ret)))
theorem hd68 : Try.f68.body.map dec = some c68 := by kernel_rfl
theorem e68 {R : AV → AH → Prop} {h : AH} (x0 : AV) (H : h.wf → AI Try.prog c68 (RetQ Try.prog [.cell 2 31, .tmp 3] R) [x0, un, un, un, un, un, un, un, un] h) : AC Try.prog 68 [x0] h R :=
  AC_of' (rs := [.cell 2 31, .tmp 3]) Try.func68 (by kernel_rfl) hd68 Try.ntmps68 rfl H

/-- slices.Clone[[]impl.Step,impl.Step] -/
def c114 : IC :=
  (.seq
  (.reg [
    ⟨some 2, .assign (.const (.slice none 0 0)), none⟩])
  (.seq
  (.seq
  (.reg [
    ⟨some 3, .move (.tmp 0), none⟩,
    ⟨some 4, .binOp .eql 28 (.tmp 3) (.const (.slice none 0 0)) 28, none⟩])
  (.cond (.tmp 4)
    (.seq
    (.reg [
      ⟨some 2, .assign (.const (.slice none 0 0)), none⟩])
    .ret)
    .skip))
  (.seq
  (.reg [
    ⟨some 5, .buildSlice 28 0 #[], none⟩,
    ⟨some 6, .move (.tmp 0), none⟩,
    ⟨some 7, .call { callee := .builtin .append, args := #[.tmp 5, .tmp 6], argTypes := #[28, 28] }, none⟩,
    ⟨some 2, .assign (.tmp 7), none⟩])
  .ret)))
theorem hd114 : Try.f114.body.map dec = some c114 := by kernel_rfl
theorem e114 {R : AV → AH → Prop} {h : AH} (x0 : AV) (H : h.wf → AI Try.prog c114 (RetQ Try.prog [.tmp 2] R) [x0, un, un, un, un, un, un, un] h) : AC Try.prog 114 [x0] h R :=
  AC_of' (rs := [.tmp 2]) Try.func114 (by kernel_rfl) hd114 Try.ntmps114 rfl H

/-- slices.Clone[[]int,int] -/
def c135 : IC :=
  (.seq
  (.reg [
    ⟨some 2, .assign (.const (.slice none 0 0)), none⟩])
  (.seq
  (.seq
  (.reg [
    ⟨some 3, .move (.tmp 0), none⟩,
    ⟨some 4, .binOp .eql 29 (.tmp 3) (.const (.slice none 0 0)) 29, none⟩])
  (.cond (.tmp 4)
    (.seq
    (.reg [
      ⟨some 2, .assign (.const (.slice none 0 0)), none⟩])
    .ret)
    .skip))
  (.seq
  (.reg [
    ⟨some 5, .buildSlice 29 0 #[], none⟩,
    ⟨some 6, .move (.tmp 0), none⟩,
    ⟨some 7, .call { callee := .builtin .append, args := #[.tmp 5, .tmp 6], argTypes := #[29, 29] }, none⟩,
    ⟨some 2, .assign (.tmp 7), none⟩])
  .ret)))
theorem hd135 : Try.f135.body.map dec = some c135 := by kernel_rfl
theorem e135 {R : AV → AH → Prop} {h : AH} (x0 : AV) (H : h.wf → AI Try.prog c135 (RetQ Try.prog [.tmp 2] R) [x0, un, un, un, un, un, un, un] h) : AC Try.prog 135 [x0] h R :=
  AC_of' (rs := [.tmp 2]) Try.func135 (by kernel_rfl) hd135 Try.ntmps135 rfl H

noncomputable def rg82_0 : Array Oper := rawAt Try.f82 0
/-- impl.clonePlan -/
noncomputable def c82 : IC :=
  (.seq
  (.reg [
    ⟨some 1, .box 31 (.tmp 0), none⟩,
    ⟨some 2, .alloc 31, none⟩])
  (.seq
  (.raw (.region 1 rg82_0 true))
  .ret))
theorem hd82 : Try.f82.body.map dec = some c82 := by kernel_rfl
theorem e82 {R : AV → AH → Prop} {h : AH} (x0 : AV) (H : h.wf → AI Try.prog c82 (RetQ Try.prog [.cell 2 31] R) [x0, un, un, un, un, un, un, un, un, un, un, un] h) : AC Try.prog 82 [x0] h R :=
  AC_of' (rs := [.cell 2 31]) Try.func82 (by kernel_rfl) hd82 Try.ntmps82 rfl H
theorem dz82_0 {h0 : AH} {L : List It} {Q : Exit → List AV → List It → Prop} {a : List AV} {id : Nat} (H : LX Try.prog ⟨[9], []⟩ h0 L L (.c (⟨some 3, .fieldAddr 31 (.tmp 1) 0, none⟩, .p) <| .c (⟨some 4, .load 3 (.tmp 3), none⟩, .l) <| .c (⟨some 5, .fieldAddr 31 (.tmp 1) 1, none⟩, .p) <| .c (⟨some 6, .load 28 (.tmp 5), none⟩, .l) <| .c (⟨some 8, .fieldAddr 31 (.tmp 1) 2, none⟩, .p) <| .c (⟨some 9, .load 29 (.tmp 8), none⟩, .l) <| .c (⟨some 7, .call { callee := .value (.func 114), args := #[.tmp 6], argTypes := #[28] }, none⟩, .e) <| .c (⟨some 10, .call { callee := .value (.func 135), args := #[.tmp 9], argTypes := #[29] }, none⟩, .e) <| .c (⟨some 11, .build 31 #[(0, .tmp 4), (1, .tmp 7), (2, .tmp 10)], none⟩, .p) <| .c (⟨none, .store 31 (.tmp 2) (.tmp 11), none⟩, .f) <| .n) Q a) : LI Try.prog h0 L (.raw (.region id rg82_0 true)) Q a :=
  LI_draw (.c (0, .p) <| .c (1, .l) <| .c (2, .p) <| .c (3, .l) <| .c (5, .p) <| .c (6, .l) <| .c (4, .e) <| .c (7, .e) <| .c (8, .p) <| .c (9, .f) <| .n) [9] (by kernel_rfl) (by kernel_rfl) (by kernel_rfl) H
theorem db82_0 {h0 : AH} {L : List It} {Q : Exit → List AV → List It → Prop} {a : List AV} {id : Nat} (K : List (Nat × List AV)) (hK : ∀ x ∈ K, It.pt x.1 x.2 ∈ L) (H : LX Try.prog ⟨[4, 7, 9], K⟩ h0 L L (.c (⟨some 3, .fieldAddr 31 (.tmp 1) 0, none⟩, .p) <| .c (⟨some 4, .load 3 (.tmp 3), none⟩, .kp) <| .c (⟨some 5, .fieldAddr 31 (.tmp 1) 1, none⟩, .p) <| .c (⟨some 6, .load 28 (.tmp 5), none⟩, .l) <| .c (⟨some 8, .fieldAddr 31 (.tmp 1) 2, none⟩, .p) <| .t (.c (⟨some 7, .call { callee := .value (.func 114), args := #[.tmp 6], argTypes := #[28] }, none⟩, .f) <| .c (⟨some 9, .load 29 (.tmp 8), none⟩, .e) <| .c (⟨some 10, .call { callee := .value (.func 135), args := #[.tmp 9], argTypes := #[29] }, none⟩, .f) <| .c (⟨some 11, .build 31 #[(0, .tmp 4), (1, .tmp 7), (2, .tmp 10)], none⟩, .p) <| .c (⟨none, .store 31 (.tmp 2) (.tmp 11), none⟩, .f) <| .n) (.c (⟨some 9, .load 29 (.tmp 8), none⟩, .e) <| .c (⟨some 7, .call { callee := .value (.func 114), args := #[.tmp 6], argTypes := #[28] }, none⟩, .f) <| .c (⟨some 10, .call { callee := .value (.func 135), args := #[.tmp 9], argTypes := #[29] }, none⟩, .f) <| .c (⟨some 11, .build 31 #[(0, .tmp 4), (1, .tmp 7), (2, .tmp 10)], none⟩, .p) <| .c (⟨none, .store 31 (.tmp 2) (.tmp 11), none⟩, .f) <| .n)) Q a) : LI Try.prog h0 L (.raw (.region id rg82_0 true)) Q a :=
  LI_drawK (.c (0, .p) <| .c (1, .kp) <| .c (2, .p) <| .c (3, .l) <| .c (5, .p) <| .t (.c (4, .f) <| .c (6, .e) <| .c (7, .f) <| .c (8, .p) <| .c (9, .f) <| .n) (.c (6, .e) <| .c (4, .f) <| .c (7, .f) <| .c (8, .p) <| .c (9, .f) <| .n)) [4, 7, 9] K hK (by kernel_rfl) (by kernel_rfl) (by kernel_rfl) H
theorem dr82_0 (m : Nat) {Q : Exit → List AV → AH → Prop} {a : List AV} {h : AH} {id : Nat} (H : AX Try.prog m h [(⟨some 3, .fieldAddr 31 (.tmp 1) 0, none⟩, true),
  (⟨some 4, .load 3 (.tmp 3), none⟩, true),
  (⟨some 5, .fieldAddr 31 (.tmp 1) 1, none⟩, true),
  (⟨some 6, .load 28 (.tmp 5), none⟩, true),
  (⟨some 8, .fieldAddr 31 (.tmp 1) 2, none⟩, true),
  (⟨some 9, .load 29 (.tmp 8), none⟩, true),
  (⟨some 7, .call { callee := .value (.func 114), args := #[.tmp 6], argTypes := #[28] }, none⟩, false),
  (⟨some 10, .call { callee := .value (.func 135), args := #[.tmp 9], argTypes := #[29] }, none⟩, false),
  (⟨some 11, .build 31 #[(0, .tmp 4), (1, .tmp 7), (2, .tmp 10)], none⟩, true),
  (⟨none, .store 31 (.tmp 2) (.tmp 11), none⟩, false)] (fun a' h' => Q .normal a' h') a h) : AI Try.prog (.raw (.region id rg82_0 true)) Q a h :=
  AI_draw [(0, true), (1, true), (2, true), (3, true), (5, true), (6, true), (4, false), (7, false), (8, true), (9, false)] m (by kernel_rfl) (by kernel_rfl) (by kernel_rfl) H

/-- impl.renamed -/
def c83 : IC :=
  (.seq
  (.reg [
    ⟨some 4, .assign (.const (.slice none 0 0)), none⟩])
  (.seq
  (.reg [
    ⟨some 8, .buildSlice 29 0 #[], none⟩,
    ⟨some 5, .assign (.tmp 8), none⟩])
  (.seq
  (.seq
  (.reg [
    ⟨some 9, .move (.tmp 0), none⟩,
    ⟨some 10, .call { callee := .builtin .len, args := #[.tmp 9], argTypes := #[29] }, none⟩,
    ⟨some 11, .move (.const (.int .i64 0)), none⟩])
  (.block 0
  (.loop
    (.seq
    (.reg [
      ⟨some 12, .binOp .lss 3 (.tmp 11) (.tmp 10) 3, none⟩])
    (.seq
    (.cond (.tmp 12)
      .skip
      (.exit 0))
    (.seq
    (.block 1
    (.seq
    (.reg [
      ⟨some 13, .indexAddr 29 (.tmp 9) (.tmp 11), none⟩,
      ⟨some 14, .load 3 (.tmp 13), none⟩,
      ⟨some 7, .assign (.tmp 14), none⟩])
    (.reg [
      ⟨some 15, .move (.tmp 5), none⟩,
      ⟨some 16, .move (.tmp 1), none⟩,
      ⟨some 17, .move (.tmp 7), none⟩,
      ⟨some 18, .indexAddr 29 (.tmp 16) (.tmp 17), none⟩,
      ⟨some 19, .load 3 (.tmp 18), none⟩,
      ⟨some 20, .buildSlice 29 1 #[(0, .tmp 19)], none⟩,
      ⟨some 21, .call { callee := .builtin .append, args := #[.tmp 15, .tmp 20], argTypes := #[29, 29] }, none⟩,
      ⟨some 5, .assign (.tmp 21), none⟩])))
    (.reg [
      ⟨some 22, .binOp .add 3 (.tmp 11) (.const (.int .i64 1)) 3, none⟩,
      ⟨some 11, .move (.tmp 22), none⟩])))))))
  (.seq
  (.reg [
    ⟨some 23, .move (.tmp 5), none⟩,
    ⟨some 4, .assign (.tmp 23), none⟩])
  .ret))))
theorem hd83 : Try.f83.body.map dec = some c83 := by kernel_rfl
theorem e83 {R : AV → AH → Prop} {h : AH} (x0 x1 : AV) (H : h.wf → AI Try.prog c83 (RetQ Try.prog [.tmp 4] R) [x0, x1, un, un, un, un, un, un, un, un, un, un, un, un, un, un, un, un, un, un, un, un, un, un] h) : AC Try.prog 83 [x0, x1] h R :=
  AC_of' (rs := [.tmp 4]) Try.func83 (by kernel_rfl) hd83 Try.ntmps83 rfl H

/-- impl.step -/
def c116 : IC :=
  (.seq
  (.reg [
    ⟨some 4, .alloc 108, none⟩])
  (.seq
  (.reg [
    ⟨some 5, .move (.tmp 0), none⟩,
    ⟨some 6, .move (.tmp 1), none⟩,
    ⟨some 7, .call { callee := .builtin .min, args := #[.tmp 5, .tmp 6], argTypes := #[3, 3] }, none⟩,
    ⟨some 8, .move (.tmp 0), none⟩,
    ⟨some 9, .move (.tmp 1), none⟩,
    ⟨some 10, .call { callee := .builtin .max, args := #[.tmp 8, .tmp 9], argTypes := #[3, 3] }, none⟩,
    ⟨some 11, .build 108 #[(0, .tmp 7), (1, .tmp 10)], none⟩,
    ⟨none, .store 108 (.tmp 4) (.tmp 11), none⟩])
  .ret))
theorem hd116 : Try.f116.body.map dec = some c116 := by kernel_rfl
theorem e116 {R : AV → AH → Prop} {h : AH} (x0 x1 : AV) (H : h.wf → AI Try.prog c116 (RetQ Try.prog [.cell 4 108] R) [x0, x1, un, un, un, un, un, un, un, un, un, un] h) : AC Try.prog 116 [x0, x1] h R :=
  AC_of' (rs := [.cell 4 108]) Try.func116 (by kernel_rfl) hd116 Try.ntmps116 rfl H

noncomputable def rg84_0 : Array Oper := rawAt Try.f84 0
/-- (*impl.Plan).behind -/
noncomputable def c84 : IC :=
  (.seq
  (.reg [
    ⟨some 6, .assign (.const (.slice none 0 0)), none⟩])
  (.seq
  (.reg [
    ⟨some 10, .move (.tmp 2), none⟩,
    ⟨some 11, .call { callee := .value (.func 135), args := #[.tmp 10], argTypes := #[29] }, none⟩,
    ⟨some 7, .assign (.tmp 11), none⟩])
  (.seq
  (.seq
  (.reg [
    ⟨some 12, .move (.tmp 1), none⟩,
    ⟨some 13, .nilCheck (.tmp 12), none⟩,
    ⟨some 14, .fieldAddr 31 (.tmp 13) 1, none⟩,
    ⟨some 15, .load 28 (.tmp 14), none⟩,
    ⟨some 16, .call { callee := .builtin .len, args := #[.tmp 15], argTypes := #[28] }, none⟩,
    ⟨some 17, .move (.const (.int .i64 0)), none⟩])
  (.block 0
  (.loop
    (.seq
    (.reg [
      ⟨some 18, .binOp .lss 3 (.tmp 17) (.tmp 16) 3, none⟩])
    (.seq
    (.cond (.tmp 18)
      .skip
      (.exit 0))
    (.seq
    (.block 1
    (.seq
    (.reg [
      ⟨some 19, .indexAddr 28 (.tmp 15) (.tmp 17), none⟩,
      ⟨some 20, .load 108 (.tmp 19), none⟩,
      ⟨some 9, .alloc 108, none⟩,
      ⟨none, .store 108 (.tmp 9) (.tmp 20), none⟩])
    (.seq
    (.reg [
      ⟨some 21, .move (.tmp 7), none⟩,
      ⟨some 22, .move (.tmp 0), none⟩,
      ⟨some 23, .call { callee := .value (.func 115), args := #[.tmp 22], argTypes := #[87] }, none⟩,
      ⟨some 24, .buildSlice 29 1 #[(0, .tmp 23)], none⟩,
      ⟨some 25, .call { callee := .builtin .append, args := #[.tmp 21, .tmp 24], argTypes := #[29, 29] }, none⟩,
      ⟨some 7, .assign (.tmp 25), none⟩])
    (.raw (.region 6 rg84_0 true)))))
    (.reg [
      ⟨some 46, .binOp .add 3 (.tmp 17) (.const (.int .i64 1)) 3, none⟩,
      ⟨some 17, .move (.tmp 46), none⟩])))))))
  (.seq
  (.reg [
    ⟨some 47, .move (.tmp 7), none⟩,
    ⟨some 6, .assign (.tmp 47), none⟩])
  .ret))))
theorem hd84 : Try.f84.body.map dec = some c84 := by kernel_rfl
theorem e84 {R : AV → AH → Prop} {h : AH} (x0 x1 x2 : AV) (H : h.wf → AI Try.prog c84 (RetQ Try.prog [.tmp 6] R) [x0, x1, x2, un, un, un, un, un, un, un, un, un, un, un, un, un, un, un, un, un, un, un, un, un, un, un, un, un, un, un, un, un, un, un, un, un, un, un, un, un, un, un, un, un, un, un, un, un] h) : AC Try.prog 84 [x0, x1, x2] h R :=
  AC_of' (rs := [.tmp 6]) Try.func84 (by kernel_rfl) hd84 Try.ntmps84 rfl H
theorem dz84_0 {h0 : AH} {L : List It} {Q : Exit → List AV → List It → Prop} {a : List AV} {id : Nat} (H : LX Try.prog ⟨[17, 20], []⟩ h0 L L (.c (⟨some 26, .move (.tmp 0), none⟩, .p) <| .c (⟨some 27, .move (.tmp 0), none⟩, .p) <| .c (⟨some 28, .nilCheck (.tmp 27), none⟩, .p) <| .c (⟨some 29, .fieldAddr 31 (.tmp 28) 1, none⟩, .p) <| .c (⟨some 30, .load 28 (.tmp 29), none⟩, .l) <| .c (⟨some 31, .move (.tmp 7), none⟩, .p) <| .c (⟨some 32, .fieldAddr 108 (.tmp 9) 0, none⟩, .p) <| .c (⟨some 33, .load 3 (.tmp 32), none⟩, .l) <| .c (⟨some 34, .indexAddr 29 (.tmp 31) (.tmp 33), none⟩, .p) <| .c (⟨some 35, .load 3 (.tmp 34), none⟩, .l) <| .c (⟨some 36, .move (.tmp 7), none⟩, .p) <| .c (⟨some 37, .fieldAddr 108 (.tmp 9) 1, none⟩, .p) <| .c (⟨some 38, .load 3 (.tmp 37), none⟩, .l) <| .c (⟨some 39, .indexAddr 29 (.tmp 36) (.tmp 38), none⟩, .p) <| .c (⟨some 40, .load 3 (.tmp 39), none⟩, .l) <| .c (⟨some 41, .call { callee := .value (.func 116), args := #[.tmp 35, .tmp 40], argTypes := #[3, 3] }, none⟩, .e) <| .c (⟨some 42, .buildSlice 28 1 #[(0, .tmp 41)], none⟩, .e) <| .c (⟨some 43, .call { callee := .builtin .append, args := #[.tmp 30, .tmp 42], argTypes := #[28, 28] }, none⟩, .f) <| .c (⟨some 44, .nilCheck (.tmp 26), none⟩, .p) <| .c (⟨some 45, .fieldAddr 31 (.tmp 44) 1, none⟩, .p) <| .c (⟨none, .store 28 (.tmp 45) (.tmp 43), none⟩, .f) <| .n) Q a) : LI Try.prog h0 L (.raw (.region id rg84_0 true)) Q a :=
  LI_draw (.c (0, .p) <| .c (1, .p) <| .c (2, .p) <| .c (3, .p) <| .c (4, .l) <| .c (5, .p) <| .c (6, .p) <| .c (7, .l) <| .c (8, .p) <| .c (9, .l) <| .c (10, .p) <| .c (11, .p) <| .c (12, .l) <| .c (13, .p) <| .c (14, .l) <| .c (15, .e) <| .c (16, .e) <| .c (17, .f) <| .c (18, .p) <| .c (19, .p) <| .c (20, .f) <| .n) [17, 20] (by kernel_rfl) (by kernel_rfl) (by kernel_rfl) H
theorem db84_0 {h0 : AH} {L : List It} {Q : Exit → List AV → List It → Prop} {a : List AV} {id : Nat} (K : List (Nat × List AV)) (hK : ∀ x ∈ K, It.pt x.1 x.2 ∈ L) (H : LX Try.prog ⟨[15, 16, 17, 20], K⟩ h0 L L (.c (⟨some 26, .move (.tmp 0), none⟩, .p) <| .c (⟨some 27, .move (.tmp 0), none⟩, .p) <| .c (⟨some 28, .nilCheck (.tmp 27), none⟩, .p) <| .c (⟨some 29, .fieldAddr 31 (.tmp 28) 1, none⟩, .p) <| .c (⟨some 31, .move (.tmp 7), none⟩, .p) <| .c (⟨some 32, .fieldAddr 108 (.tmp 9) 0, none⟩, .p) <| .c (⟨some 33, .load 3 (.tmp 32), none⟩, .l) <| .c (⟨some 34, .indexAddr 29 (.tmp 31) (.tmp 33), none⟩, .p) <| .c (⟨some 35, .load 3 (.tmp 34), none⟩, .l) <| .c (⟨some 36, .move (.tmp 7), none⟩, .p) <| .c (⟨some 37, .fieldAddr 108 (.tmp 9) 1, none⟩, .p) <| .c (⟨some 38, .load 3 (.tmp 37), none⟩, .l) <| .c (⟨some 39, .indexAddr 29 (.tmp 36) (.tmp 38), none⟩, .p) <| .c (⟨some 40, .load 3 (.tmp 39), none⟩, .l) <| .t (.c (⟨some 30, .load 28 (.tmp 29), none⟩, .e) <| .c (⟨some 41, .call { callee := .value (.func 116), args := #[.tmp 35, .tmp 40], argTypes := #[3, 3] }, none⟩, .f) <| .c (⟨some 42, .buildSlice 28 1 #[(0, .tmp 41)], none⟩, .f) <| .c (⟨some 43, .call { callee := .builtin .append, args := #[.tmp 30, .tmp 42], argTypes := #[28, 28] }, none⟩, .f) <| .c (⟨some 44, .nilCheck (.tmp 26), none⟩, .p) <| .c (⟨some 45, .fieldAddr 31 (.tmp 44) 1, none⟩, .p) <| .c (⟨none, .store 28 (.tmp 45) (.tmp 43), none⟩, .f) <| .n) (.c (⟨some 41, .call { callee := .value (.func 116), args := #[.tmp 35, .tmp 40], argTypes := #[3, 3] }, none⟩, .f) <| .t (.c (⟨some 30, .load 28 (.tmp 29), none⟩, .e) <| .c (⟨some 42, .buildSlice 28 1 #[(0, .tmp 41)], none⟩, .f) <| .c (⟨some 43, .call { callee := .builtin .append, args := #[.tmp 30, .tmp 42], argTypes := #[28, 28] }, none⟩, .f) <| .c (⟨some 44, .nilCheck (.tmp 26), none⟩, .p) <| .c (⟨some 45, .fieldAddr 31 (.tmp 44) 1, none⟩, .p) <| .c (⟨none, .store 28 (.tmp 45) (.tmp 43), none⟩, .f) <| .n) (.c (⟨some 42, .buildSlice 28 1 #[(0, .tmp 41)], none⟩, .f) <| .c (⟨some 30, .load 28 (.tmp 29), none⟩, .e) <| .c (⟨some 43, .call { callee := .builtin .append, args := #[.tmp 30, .tmp 42], argTypes := #[28, 28] }, none⟩, .f) <| .c (⟨some 44, .nilCheck (.tmp 26), none⟩, .p) <| .c (⟨some 45, .fieldAddr 31 (.tmp 44) 1, none⟩, .p) <| .c (⟨none, .store 28 (.tmp 45) (.tmp 43), none⟩, .f) <| .n))) Q a) : LI Try.prog h0 L (.raw (.region id rg84_0 true)) Q a :=
  LI_drawK (.c (0, .p) <| .c (1, .p) <| .c (2, .p) <| .c (3, .p) <| .c (5, .p) <| .c (6, .p) <| .c (7, .l) <| .c (8, .p) <| .c (9, .l) <| .c (10, .p) <| .c (11, .p) <| .c (12, .l) <| .c (13, .p) <| .c (14, .l) <| .t (.c (4, .e) <| .c (15, .f) <| .c (16, .f) <| .c (17, .f) <| .c (18, .p) <| .c (19, .p) <| .c (20, .f) <| .n) (.c (15, .f) <| .t (.c (4, .e) <| .c (16, .f) <| .c (17, .f) <| .c (18, .p) <| .c (19, .p) <| .c (20, .f) <| .n) (.c (16, .f) <| .c (4, .e) <| .c (17, .f) <| .c (18, .p) <| .c (19, .p) <| .c (20, .f) <| .n))) [15, 16, 17, 20] K hK (by kernel_rfl) (by kernel_rfl) (by kernel_rfl) H
theorem dr84_0 (m : Nat) {Q : Exit → List AV → AH → Prop} {a : List AV} {h : AH} {id : Nat} (H : AX Try.prog m h [(⟨some 26, .move (.tmp 0), none⟩, true),
  (⟨some 27, .move (.tmp 0), none⟩, true),
  (⟨some 28, .nilCheck (.tmp 27), none⟩, true),
  (⟨some 29, .fieldAddr 31 (.tmp 28) 1, none⟩, true),
  (⟨some 30, .load 28 (.tmp 29), none⟩, true),
  (⟨some 31, .move (.tmp 7), none⟩, true),
  (⟨some 32, .fieldAddr 108 (.tmp 9) 0, none⟩, true),
  (⟨some 33, .load 3 (.tmp 32), none⟩, true),
  (⟨some 34, .indexAddr 29 (.tmp 31) (.tmp 33), none⟩, true),
  (⟨some 35, .load 3 (.tmp 34), none⟩, true),
  (⟨some 36, .move (.tmp 7), none⟩, true),
  (⟨some 37, .fieldAddr 108 (.tmp 9) 1, none⟩, true),
  (⟨some 38, .load 3 (.tmp 37), none⟩, true),
  (⟨some 39, .indexAddr 29 (.tmp 36) (.tmp 38), none⟩, true),
  (⟨some 40, .load 3 (.tmp 39), none⟩, true),
  (⟨some 41, .call { callee := .value (.func 116), args := #[.tmp 35, .tmp 40], argTypes := #[3, 3] }, none⟩, false),
  (⟨some 42, .buildSlice 28 1 #[(0, .tmp 41)], none⟩, false),
  (⟨some 43, .call { callee := .builtin .append, args := #[.tmp 30, .tmp 42], argTypes := #[28, 28] }, none⟩, false),
  (⟨some 44, .nilCheck (.tmp 26), none⟩, true),
  (⟨some 45, .fieldAddr 31 (.tmp 44) 1, none⟩, true),
  (⟨none, .store 28 (.tmp 45) (.tmp 43), none⟩, false)] (fun a' h' => Q .normal a' h') a h) : AI Try.prog (.raw (.region id rg84_0 true)) Q a h :=
  AI_draw [(0, true), (1, true), (2, true), (3, true), (4, true), (5, true), (6, true), (7, true), (8, true), (9, true), (10, true), (11, true), (12, true), (13, true), (14, true), (15, false), (16, false), (17, false), (18, true), (19, true), (20, false)] m (by kernel_rfl) (by kernel_rfl) (by kernel_rfl) H

noncomputable def rg30_0 : Array Oper := rawAt Try.f30 0
/-- impl.ComposePlans -/
noncomputable def c30 : IC :=
  (.seq
  (.reg [
    ⟨some 2, .box 31 (.tmp 0), none⟩,
    ⟨some 3, .box 31 (.tmp 1), none⟩,
    ⟨some 4, .alloc 31, none⟩,
    ⟨some 5, .assign (.const (.bool false)), none⟩])
  (.seq
  (.seq
  (.reg [
    ⟨some 7, .load 31 (.tmp 2), none⟩,
    ⟨some 8, .call { callee := .value (.func 81), args := #[.tmp 7], argTypes := #[31] }, none⟩,
    ⟨some 9, .unOp .not 4 (.tmp 8), none⟩,
    ⟨some 10, .move (.tmp 9), none⟩,
    ⟨some 11, .load 31 (.tmp 3), some (10, false)⟩,
    ⟨some 12, .call { callee := .value (.func 81), args := #[.tmp 11], argTypes := #[31] }, some (10, false)⟩,
    ⟨some 13, .unOp .not 4 (.tmp 12), some (10, false)⟩,
    ⟨some 14, .pick (.tmp 10) (.const (.bool true)) (.tmp 13), none⟩,
    ⟨some 15, .move (.tmp 14), none⟩,
    ⟨some 16, .fieldAddr 31 (.tmp 2) 2, some (15, false)⟩,
    ⟨some 17, .load 29 (.tmp 16), some (15, false)⟩,
    ⟨some 18, .call { callee := .builtin .len, args := #[.tmp 17], argTypes := #[29] }, some (15, false)⟩,
    ⟨some 19, .fieldAddr 31 (.tmp 3) 0, some (15, false)⟩,
    ⟨some 20, .load 3 (.tmp 19), some (15, false)⟩,
    ⟨some 21, .binOp .neq 3 (.tmp 18) (.tmp 20) 3, some (15, false)⟩,
    ⟨some 22, .pick (.tmp 15) (.const (.bool true)) (.tmp 21), none⟩])
  (.cond (.tmp 22)
    (.seq
    (.reg [
      ⟨some 23, .build 31 #[], none⟩,
      ⟨none, .store 31 (.tmp 4) (.tmp 23), none⟩,
      ⟨some 5, .assign (.const (.bool false)), none⟩])
    .ret)
    .skip))
  (.seq
  (.reg [
    ⟨some 24, .load 31 (.tmp 2), none⟩,
    ⟨some 25, .call { callee := .value (.func 82), args := #[.tmp 24], argTypes := #[31] }, none⟩,
    ⟨some 6, .alloc 31, none⟩,
    ⟨none, .store 31 (.tmp 6) (.tmp 25), none⟩])
  (.seq
  (.raw (.region 4 rg30_0 true))
  (.seq
  (.reg [
    ⟨some 33, .load 31 (.tmp 6), none⟩,
    ⟨some 34, .call { callee := .value (.func 68), args := #[.tmp 33], argTypes := #[31] }, none⟩,
    ⟨some 35, .extract (.tmp 34) 0, none⟩,
    ⟨some 36, .extract (.tmp 34) 1, none⟩,
    ⟨none, .store 31 (.tmp 4) (.tmp 35), none⟩,
    ⟨some 5, .assign (.tmp 36), none⟩])
  .ret)))))
theorem hd30 : Try.f30.body.map dec = some c30 := by kernel_rfl
theorem e30 {R : AV → AH → Prop} {h : AH} (x0 x1 : AV) (H : h.wf → AI Try.prog c30 (RetQ Try.prog [.cell 4 31, .tmp 5] R) [x0, x1, un, un, un, un, un, un, un, un, un, un, un, un, un, un, un, un, un, un, un, un, un, un, un, un, un, un, un, un, un, un, un, un, un, un, un] h) : AC Try.prog 30 [x0, x1] h R :=
  AC_of' (rs := [.cell 4 31, .tmp 5]) Try.func30 (by kernel_rfl) hd30 Try.ntmps30 rfl H
theorem dz30_0 {h0 : AH} {L : List It} {Q : Exit → List AV → List It → Prop} {a : List AV} {id : Nat} (H : LX Try.prog ⟨[7], []⟩ h0 L L (.c (⟨some 26, .fieldAddr 31 (.tmp 3) 2, none⟩, .p) <| .c (⟨some 27, .load 29 (.tmp 26), none⟩, .l) <| .c (⟨some 28, .fieldAddr 31 (.tmp 2) 2, none⟩, .p) <| .c (⟨some 29, .load 29 (.tmp 28), none⟩, .l) <| .c (⟨some 30, .call { callee := .value (.func 84), args := #[.tmp 6, .tmp 3, .tmp 29], argTypes := #[31, 87, 29] }, none⟩, .e) <| .c (⟨some 31, .call { callee := .value (.func 83), args := #[.tmp 27, .tmp 30], argTypes := #[29, 29] }, none⟩, .e) <| .c (⟨some 32, .fieldAddr 31 (.tmp 6) 2, none⟩, .p) <| .c (⟨none, .store 29 (.tmp 32) (.tmp 31), none⟩, .f) <| .n) Q a) : LI Try.prog h0 L (.raw (.region id rg30_0 true)) Q a :=
  LI_draw (.c (0, .p) <| .c (1, .l) <| .c (2, .p) <| .c (3, .l) <| .c (4, .e) <| .c (5, .e) <| .c (6, .p) <| .c (7, .f) <| .n) [7] (by kernel_rfl) (by kernel_rfl) (by kernel_rfl) H
theorem db30_0 {h0 : AH} {L : List It} {Q : Exit → List AV → List It → Prop} {a : List AV} {id : Nat} (K : List (Nat × List AV)) (hK : ∀ x ∈ K, It.pt x.1 x.2 ∈ L) (H : LX Try.prog ⟨[4, 5, 7], K⟩ h0 L L (.c (⟨some 26, .fieldAddr 31 (.tmp 3) 2, none⟩, .p) <| .c (⟨some 28, .fieldAddr 31 (.tmp 2) 2, none⟩, .p) <| .c (⟨some 29, .load 29 (.tmp 28), none⟩, .l) <| .t (.c (⟨some 27, .load 29 (.tmp 26), none⟩, .e) <| .c (⟨some 30, .call { callee := .value (.func 84), args := #[.tmp 6, .tmp 3, .tmp 29], argTypes := #[31, 87, 29] }, none⟩, .f) <| .c (⟨some 31, .call { callee := .value (.func 83), args := #[.tmp 27, .tmp 30], argTypes := #[29, 29] }, none⟩, .f) <| .c (⟨some 32, .fieldAddr 31 (.tmp 6) 2, none⟩, .p) <| .c (⟨none, .store 29 (.tmp 32) (.tmp 31), none⟩, .f) <| .n) (.c (⟨some 30, .call { callee := .value (.func 84), args := #[.tmp 6, .tmp 3, .tmp 29], argTypes := #[31, 87, 29] }, none⟩, .f) <| .c (⟨some 27, .load 29 (.tmp 26), none⟩, .e) <| .c (⟨some 31, .call { callee := .value (.func 83), args := #[.tmp 27, .tmp 30], argTypes := #[29, 29] }, none⟩, .f) <| .c (⟨some 32, .fieldAddr 31 (.tmp 6) 2, none⟩, .p) <| .c (⟨none, .store 29 (.tmp 32) (.tmp 31), none⟩, .f) <| .n)) Q a) : LI Try.prog h0 L (.raw (.region id rg30_0 true)) Q a :=
  LI_drawK (.c (0, .p) <| .c (2, .p) <| .c (3, .l) <| .t (.c (1, .e) <| .c (4, .f) <| .c (5, .f) <| .c (6, .p) <| .c (7, .f) <| .n) (.c (4, .f) <| .c (1, .e) <| .c (5, .f) <| .c (6, .p) <| .c (7, .f) <| .n)) [4, 5, 7] K hK (by kernel_rfl) (by kernel_rfl) (by kernel_rfl) H
theorem dr30_0 (m : Nat) {Q : Exit → List AV → AH → Prop} {a : List AV} {h : AH} {id : Nat} (H : AX Try.prog m h [(⟨some 26, .fieldAddr 31 (.tmp 3) 2, none⟩, true),
  (⟨some 27, .load 29 (.tmp 26), none⟩, true),
  (⟨some 28, .fieldAddr 31 (.tmp 2) 2, none⟩, true),
  (⟨some 29, .load 29 (.tmp 28), none⟩, true),
  (⟨some 30, .call { callee := .value (.func 84), args := #[.tmp 6, .tmp 3, .tmp 29], argTypes := #[31, 87, 29] }, none⟩, false),
  (⟨some 31, .call { callee := .value (.func 83), args := #[.tmp 27, .tmp 30], argTypes := #[29, 29] }, none⟩, false),
  (⟨some 32, .fieldAddr 31 (.tmp 6) 2, none⟩, true),
  (⟨none, .store 29 (.tmp 32) (.tmp 31), none⟩, false)] (fun a' h' => Q .normal a' h') a h) : AI Try.prog (.raw (.region id rg30_0 true)) Q a h :=
  AI_draw [(0, true), (1, true), (2, true), (3, true), (4, false), (5, false), (6, true), (7, false)] m (by kernel_rfl) (by kernel_rfl) (by kernel_rfl) H

/-- impl.isNumber -/
def c61 : IC :=
  (.seq
  (.reg [
    ⟨some 2, .assign (.const (.bool false)), none⟩])
  (.seq
  (.reg [
    ⟨some 3, .move (.tmp 0), none⟩,
    ⟨some 4, .call { callee := .value (.func 104), args := #[.tmp 3, .const (.int .i64 1), .const (.int .i64 1000000)], argTypes := #[3, 3, 3] }, none⟩,
    ⟨some 2, .assign (.tmp 4), none⟩])
  .ret))
theorem hd61 : Try.f61.body.map dec = some c61 := by kernel_rfl
theorem e61 {R : AV → AH → Prop} {h : AH} (x0 : AV) (H : h.wf → AI Try.prog c61 (RetQ Try.prog [.tmp 2] R) [x0, un, un, un, un] h) : AC Try.prog 61 [x0] h R :=
  AC_of' (rs := [.tmp 2]) Try.func61 (by kernel_rfl) hd61 Try.ntmps61 rfl H

/-- impl.leastFactor -/
def c62 : IC :=
  (.seq
  (.reg [
    ⟨some 2, .assign (.const (.int .i64 0)), none⟩])
  (.seq
  (.seq
  (.reg [
    ⟨some 3, .assign (.const (.int .i64 2)), none⟩])
  (.block 0
  (.loop
    (.seq
    (.seq
    (.reg [
      ⟨some 4, .move (.tmp 3), none⟩,
      ⟨some 5, .move (.tmp 3), none⟩,
      ⟨some 6, .binOp .mul 3 (.tmp 4) (.tmp 5) 3, none⟩,
      ⟨some 7, .move (.tmp 0), none⟩,
      ⟨some 8, .binOp .leq 3 (.tmp 6) (.tmp 7) 3, none⟩])
    (.cond (.tmp 8)
      .skip
      (.exit 0)))
    (.seq
    (.block 1
    (.seq
    (.reg [
      ⟨some 11, .move (.tmp 0), none⟩,
      ⟨some 12, .move (.tmp 3), none⟩,
      ⟨some 13, .binOp .rem 3 (.tmp 11) (.tmp 12) 3, none⟩,
      ⟨some 14, .binOp .eql 3 (.tmp 13) (.const (.int .i64 0)) 3, none⟩])
    (.cond (.tmp 14)
      (.seq
      (.reg [
        ⟨some 15, .move (.tmp 3), none⟩,
        ⟨some 2, .assign (.tmp 15), none⟩])
      .ret)
      .skip)))
    (.reg [
      ⟨some 9, .move (.tmp 3), none⟩,
      ⟨some 10, .binOp .add 3 (.tmp 9) (.const (.int .i64 1)) 3, none⟩,
      ⟨some 3, .assign (.tmp 10), none⟩]))))))
  (.seq
  (.reg [
    ⟨some 16, .move (.tmp 0), none⟩,
    ⟨some 2, .assign (.tmp 16), none⟩])
  .ret)))
theorem hd62 : Try.f62.body.map dec = some c62 := by kernel_rfl
theorem e62 {R : AV → AH → Prop} {h : AH} (x0 : AV) (H : h.wf → AI Try.prog c62 (RetQ Try.prog [.tmp 2] R) [x0, un, un, un, un, un, un, un, un, un, un, un, un, un, un, un, un] h) : AC Try.prog 62 [x0] h R :=
  AC_of' (rs := [.tmp 2]) Try.func62 (by kernel_rfl) hd62 Try.ntmps62 rfl H

noncomputable def rg67_0 : Array Oper := rawAt Try.f67 0
/-- (*impl.maker).multiply -/
noncomputable def c67 : IC :=
  (.seq
  (.reg [
    ⟨some 6, .assign (.const (.int .i64 0)), none⟩])
  (.seq
  (.raw (.region 1 rg67_0 true))
  (.seq
  (.reg [
    ⟨some 21, .move (.tmp 0), none⟩,
    ⟨some 22, .nilCheck (.tmp 21), none⟩,
    ⟨some 23, .fieldAddr 97 (.tmp 22) 0, none⟩,
    ⟨some 24, .call { callee := .value (.func 115), args := #[.tmp 23], argTypes := #[31] }, none⟩,
    ⟨some 25, .binOp .sub 3 (.tmp 24) (.const (.int .i64 1)) 3, none⟩,
    ⟨some 6, .assign (.tmp 25), none⟩])
  .ret)))
theorem hd67 : Try.f67.body.map dec = some c67 := by kernel_rfl
theorem e67 {R : AV → AH → Prop} {h : AH} (x0 x1 x2 : AV) (H : h.wf → AI Try.prog c67 (RetQ Try.prog [.tmp 6] R) [x0, x1, x2, un, un, un, un, un, un, un, un, un, un, un, un, un, un, un, un, un, un, un, un, un, un, un] h) : AC Try.prog 67 [x0, x1, x2] h R :=
  AC_of' (rs := [.tmp 6]) Try.func67 (by kernel_rfl) hd67 Try.ntmps67 rfl H
theorem dz67_0 {h0 : AH} {L : List It} {Q : Exit → List AV → List It → Prop} {a : List AV} {id : Nat} (H : LX Try.prog ⟨[10, 14], []⟩ h0 L L (.c (⟨some 7, .move (.tmp 0), none⟩, .p) <| .c (⟨some 8, .move (.tmp 0), none⟩, .p) <| .c (⟨some 9, .nilCheck (.tmp 8), none⟩, .p) <| .c (⟨some 10, .fieldAddr 97 (.tmp 9) 0, none⟩, .p) <| .c (⟨some 11, .fieldAddr 31 (.tmp 10) 1, none⟩, .p) <| .c (⟨some 12, .load 28 (.tmp 11), none⟩, .l) <| .c (⟨some 13, .move (.tmp 1), none⟩, .p) <| .c (⟨some 14, .move (.tmp 2), none⟩, .p) <| .c (⟨some 15, .call { callee := .value (.func 116), args := #[.tmp 13, .tmp 14], argTypes := #[3, 3] }, none⟩, .e) <| .c (⟨some 16, .buildSlice 28 1 #[(0, .tmp 15)], none⟩, .e) <| .c (⟨some 17, .call { callee := .builtin .append, args := #[.tmp 12, .tmp 16], argTypes := #[28, 28] }, none⟩, .f) <| .c (⟨some 18, .nilCheck (.tmp 7), none⟩, .p) <| .c (⟨some 19, .fieldAddr 97 (.tmp 18) 0, none⟩, .p) <| .c (⟨some 20, .fieldAddr 31 (.tmp 19) 1, none⟩, .p) <| .c (⟨none, .store 28 (.tmp 20) (.tmp 17), none⟩, .f) <| .n) Q a) : LI Try.prog h0 L (.raw (.region id rg67_0 true)) Q a :=
  LI_draw (.c (0, .p) <| .c (1, .p) <| .c (2, .p) <| .c (3, .p) <| .c (4, .p) <| .c (5, .l) <| .c (6, .p) <| .c (7, .p) <| .c (8, .e) <| .c (9, .e) <| .c (10, .f) <| .c (11, .p) <| .c (12, .p) <| .c (13, .p) <| .c (14, .f) <| .n) [10, 14] (by kernel_rfl) (by kernel_rfl) (by kernel_rfl) H
theorem db67_0 {h0 : AH} {L : List It} {Q : Exit → List AV → List It → Prop} {a : List AV} {id : Nat} (K : List (Nat × List AV)) (hK : ∀ x ∈ K, It.pt x.1 x.2 ∈ L) (H : LX Try.prog ⟨[8, 9, 10, 14], K⟩ h0 L L (.c (⟨some 7, .move (.tmp 0), none⟩, .p) <| .c (⟨some 8, .move (.tmp 0), none⟩, .p) <| .c (⟨some 9, .nilCheck (.tmp 8), none⟩, .p) <| .c (⟨some 10, .fieldAddr 97 (.tmp 9) 0, none⟩, .p) <| .c (⟨some 11, .fieldAddr 31 (.tmp 10) 1, none⟩, .p) <| .c (⟨some 13, .move (.tmp 1), none⟩, .p) <| .c (⟨some 14, .move (.tmp 2), none⟩, .p) <| .t (.c (⟨some 12, .load 28 (.tmp 11), none⟩, .e) <| .c (⟨some 15, .call { callee := .value (.func 116), args := #[.tmp 13, .tmp 14], argTypes := #[3, 3] }, none⟩, .f) <| .c (⟨some 16, .buildSlice 28 1 #[(0, .tmp 15)], none⟩, .f) <| .c (⟨some 17, .call { callee := .builtin .append, args := #[.tmp 12, .tmp 16], argTypes := #[28, 28] }, none⟩, .f) <| .c (⟨some 18, .nilCheck (.tmp 7), none⟩, .p) <| .c (⟨some 19, .fieldAddr 97 (.tmp 18) 0, none⟩, .p) <| .c (⟨some 20, .fieldAddr 31 (.tmp 19) 1, none⟩, .p) <| .c (⟨none, .store 28 (.tmp 20) (.tmp 17), none⟩, .f) <| .n) (.c (⟨some 15, .call { callee := .value (.func 116), args := #[.tmp 13, .tmp 14], argTypes := #[3, 3] }, none⟩, .f) <| .t (.c (⟨some 12, .load 28 (.tmp 11), none⟩, .e) <| .c (⟨some 16, .buildSlice 28 1 #[(0, .tmp 15)], none⟩, .f) <| .c (⟨some 17, .call { callee := .builtin .append, args := #[.tmp 12, .tmp 16], argTypes := #[28, 28] }, none⟩, .f) <| .c (⟨some 18, .nilCheck (.tmp 7), none⟩, .p) <| .c (⟨some 19, .fieldAddr 97 (.tmp 18) 0, none⟩, .p) <| .c (⟨some 20, .fieldAddr 31 (.tmp 19) 1, none⟩, .p) <| .c (⟨none, .store 28 (.tmp 20) (.tmp 17), none⟩, .f) <| .n) (.c (⟨some 16, .buildSlice 28 1 #[(0, .tmp 15)], none⟩, .f) <| .c (⟨some 12, .load 28 (.tmp 11), none⟩, .e) <| .c (⟨some 17, .call { callee := .builtin .append, args := #[.tmp 12, .tmp 16], argTypes := #[28, 28] }, none⟩, .f) <| .c (⟨some 18, .nilCheck (.tmp 7), none⟩, .p) <| .c (⟨some 19, .fieldAddr 97 (.tmp 18) 0, none⟩, .p) <| .c (⟨some 20, .fieldAddr 31 (.tmp 19) 1, none⟩, .p) <| .c (⟨none, .store 28 (.tmp 20) (.tmp 17), none⟩, .f) <| .n))) Q a) : LI Try.prog h0 L (.raw (.region id rg67_0 true)) Q a :=
  LI_drawK (.c (0, .p) <| .c (1, .p) <| .c (2, .p) <| .c (3, .p) <| .c (4, .p) <| .c (6, .p) <| .c (7, .p) <| .t (.c (5, .e) <| .c (8, .f) <| .c (9, .f) <| .c (10, .f) <| .c (11, .p) <| .c (12, .p) <| .c (13, .p) <| .c (14, .f) <| .n) (.c (8, .f) <| .t (.c (5, .e) <| .c (9, .f) <| .c (10, .f) <| .c (11, .p) <| .c (12, .p) <| .c (13, .p) <| .c (14, .f) <| .n) (.c (9, .f) <| .c (5, .e) <| .c (10, .f) <| .c (11, .p) <| .c (12, .p) <| .c (13, .p) <| .c (14, .f) <| .n))) [8, 9, 10, 14] K hK (by kernel_rfl) (by kernel_rfl) (by kernel_rfl) H
theorem dr67_0 (m : Nat) {Q : Exit → List AV → AH → Prop} {a : List AV} {h : AH} {id : Nat} (H : AX Try.prog m h [(⟨some 7, .move (.tmp 0), none⟩, true),
  (⟨some 8, .move (.tmp 0), none⟩, true),
  (⟨some 9, .nilCheck (.tmp 8), none⟩, true),
  (⟨some 10, .fieldAddr 97 (.tmp 9) 0, none⟩, true),
  (⟨some 11, .fieldAddr 31 (.tmp 10) 1, none⟩, true),
  (⟨some 12, .load 28 (.tmp 11), none⟩, true),
  (⟨some 13, .move (.tmp 1), none⟩, true),
  (⟨some 14, .move (.tmp 2), none⟩, true),
  (⟨some 15, .call { callee := .value (.func 116), args := #[.tmp 13, .tmp 14], argTypes := #[3, 3] }, none⟩, false),
  (⟨some 16, .buildSlice 28 1 #[(0, .tmp 15)], none⟩, false),
  (⟨some 17, .call { callee := .builtin .append, args := #[.tmp 12, .tmp 16], argTypes := #[28, 28] }, none⟩, false),
  (⟨some 18, .nilCheck (.tmp 7), none⟩, true),
  (⟨some 19, .fieldAddr 97 (.tmp 18) 0, none⟩, true),
  (⟨some 20, .fieldAddr 31 (.tmp 19) 1, none⟩, true),
  (⟨none, .store 28 (.tmp 20) (.tmp 17), none⟩, false)] (fun a' h' => Q .normal a' h') a h) : AI Try.prog (.raw (.region id rg67_0 true)) Q a h :=
  AI_draw [(0, true), (1, true), (2, true), (3, true), (4, true), (5, true), (6, true), (7, true), (8, false), (9, false), (10, false), (11, true), (12, true), (13, true), (14, false)] m (by kernel_rfl) (by kernel_rfl) (by kernel_rfl) H

/-- (*impl.maker).plan -/
def c69 : IC :=
  (.seq
  (.reg [
    ⟨some 4, .alloc 31, none⟩])
  (.seq
  (.reg [
    ⟨some 5, .move (.tmp 0), none⟩,
    ⟨some 6, .move (.tmp 1), none⟩,
    ⟨some 7, .nilCheck (.tmp 5), none⟩,
    ⟨some 8, .fieldAddr 97 (.tmp 7) 0, none⟩,
    ⟨some 9, .fieldAddr 31 (.tmp 8) 2, none⟩,
    ⟨none, .store 29 (.tmp 9) (.tmp 6), none⟩])
  (.seq
  (.reg [
    ⟨some 10, .move (.tmp 0), none⟩,
    ⟨some 11, .nilCheck (.tmp 10), none⟩,
    ⟨some 12, .fieldAddr 97 (.tmp 11) 0, none⟩,
    ⟨some 13, .load 31 (.tmp 12), none⟩,
    ⟨none, .store 31 (.tmp 4) (.tmp 13), none⟩])
  .ret)))
theorem hd69 : Try.f69.body.map dec = some c69 := by kernel_rfl
theorem e69 {R : AV → AH → Prop} {h : AH} (x0 x1 : AV) (H : h.wf → AI Try.prog c69 (RetQ Try.prog [.cell 4 31] R) [x0, x1, un, un, un, un, un, un, un, un, un, un, un, un] h) : AC Try.prog 69 [x0, x1] h R :=
  AC_of' (rs := [.cell 4 31]) Try.func69 (by kernel_rfl) hd69 Try.ntmps69 rfl H

/-- impl.FactorPlan -/
def c59 : IC :=
  (.seq
  (.reg [
    ⟨some 2, .alloc 31, none⟩,
    ⟨some 3, .assign (.const (.bool false)), none⟩])
  (.seq
  (.seq
  (.reg [
    ⟨some 12, .move (.tmp 0), none⟩,
    ⟨some 13, .call { callee := .value (.func 61), args := #[.tmp 12], argTypes := #[3] }, none⟩,
    ⟨some 14, .unOp .not 4 (.tmp 13), none⟩])
  (.cond (.tmp 14)
    (.seq
    (.reg [
      ⟨some 15, .build 31 #[], none⟩,
      ⟨none, .store 31 (.tmp 2) (.tmp 15), none⟩,
      ⟨some 3, .assign (.const (.bool false)), none⟩])
    .ret)
    .skip))
  (.seq
  (.seq
  (.reg [
    ⟨some 16, .move (.tmp 0), none⟩,
    ⟨some 17, .binOp .eql 3 (.tmp 16) (.const (.int .i64 1)) 3, none⟩])
  (.cond (.tmp 17)
    (.seq
    (.reg [
      ⟨some 18, .buildSlice 29 1 #[(0, .const (.int .i64 0))], none⟩,
      ⟨some 19, .build 31 #[(0, .const (.int .i64 1)), (2, .tmp 18)], none⟩,
      ⟨none, .store 31 (.tmp 2) (.tmp 19), none⟩,
      ⟨some 3, .assign (.const (.bool true)), none⟩])
    .ret)
    .skip))
  (.seq
  (.reg [
    ⟨some 20, .move (.tmp 0), none⟩,
    ⟨some 21, .call { callee := .value (.func 62), args := #[.tmp 20], argTypes := #[3] }, none⟩,
    ⟨some 4, .assign (.tmp 21), none⟩])
  (.seq
  (.seq
  (.reg [
    ⟨some 22, .move (.tmp 4), none⟩,
    ⟨some 23, .move (.tmp 0), none⟩,
    ⟨some 24, .binOp .lss 3 (.tmp 22) (.tmp 23) 3, none⟩])
  (.cond (.tmp 24)
    (.seq
    (.reg [
      ⟨some 26, .move (.tmp 4), none⟩,
      ⟨some 27, .call { callee := .value (.func 59), args := #[.tmp 26], argTypes := #[3] }, none⟩,
      ⟨some 25, .move (.tmp 27), none⟩,
      ⟨some 28, .extract (.tmp 25) 0, none⟩,
      ⟨some 29, .extract (.tmp 25) 1, none⟩,
      ⟨some 5, .alloc 31, none⟩,
      ⟨none, .store 31 (.tmp 5) (.tmp 28), none⟩,
      ⟨some 6, .assign (.tmp 29), none⟩])
    (.seq
    (.reg [
      ⟨some 31, .move (.tmp 0), none⟩,
      ⟨some 32, .move (.tmp 4), none⟩,
      ⟨some 33, .binOp .quo 3 (.tmp 31) (.tmp 32) 3, none⟩,
      ⟨some 34, .call { callee := .value (.func 59), args := #[.tmp 33], argTypes := #[3] }, none⟩,
      ⟨some 30, .move (.tmp 34), none⟩,
      ⟨some 35, .extract (.tmp 30) 0, none⟩,
      ⟨some 36, .extract (.tmp 30) 1, none⟩,
      ⟨some 7, .alloc 31, none⟩,
      ⟨none, .store 31 (.tmp 7) (.tmp 35), none⟩,
      ⟨some 8, .assign (.tmp 36), none⟩])
    (.seq
    (.seq
    (.reg [
      ⟨some 37, .move (.tmp 6), none⟩,
      ⟨some 38, .unOp .not 4 (.tmp 37), none⟩,
      ⟨some 39, .move (.tmp 38), none⟩,
      ⟨some 40, .move (.tmp 8), some (39, false)⟩,
      ⟨some 41, .unOp .not 4 (.tmp 40), some (39, false)⟩,
      ⟨some 42, .pick (.tmp 39) (.const (.bool true)) (.tmp 41), none⟩])
    (.cond (.tmp 42)
      (.seq
      (.reg [
        ⟨some 43, .build 31 #[], none⟩,
        ⟨none, .store 31 (.tmp 2) (.tmp 43), none⟩,
        ⟨some 3, .assign (.const (.bool false)), none⟩])
      .ret)
      .skip))
    (.seq
    (.reg [
      ⟨some 44, .load 31 (.tmp 5), none⟩,
      ⟨some 45, .load 31 (.tmp 7), none⟩,
      ⟨some 46, .call { callee := .value (.func 30), args := #[.tmp 44, .tmp 45], argTypes := #[31, 31] }, none⟩,
      ⟨some 47, .extract (.tmp 46) 0, none⟩,
      ⟨some 48, .extract (.tmp 46) 1, none⟩,
      ⟨none, .store 31 (.tmp 2) (.tmp 47), none⟩,
      ⟨some 3, .assign (.tmp 48), none⟩])
    .ret))))
    .skip))
  (.seq
  (.reg [
    ⟨some 50, .move (.tmp 0), none⟩,
    ⟨some 51, .binOp .sub 3 (.tmp 50) (.const (.int .i64 1)) 3, none⟩,
    ⟨some 52, .call { callee := .value (.func 59), args := #[.tmp 51], argTypes := #[3] }, none⟩,
    ⟨some 49, .move (.tmp 52), none⟩,
    ⟨some 53, .extract (.tmp 49) 0, none⟩,
    ⟨some 54, .extract (.tmp 49) 1, none⟩,
    ⟨some 9, .alloc 31, none⟩,
    ⟨none, .store 31 (.tmp 9) (.tmp 53), none⟩,
    ⟨some 10, .assign (.tmp 54), none⟩])
  (.seq
  (.seq
  (.reg [
    ⟨some 55, .move (.tmp 10), none⟩,
    ⟨some 56, .unOp .not 4 (.tmp 55), none⟩])
  (.cond (.tmp 56)
    (.seq
    (.reg [
      ⟨some 57, .build 31 #[], none⟩,
      ⟨none, .store 31 (.tmp 2) (.tmp 57), none⟩,
      ⟨some 3, .assign (.const (.bool false)), none⟩])
    .ret)
    .skip))
  (.seq
  (.reg [
    ⟨some 58, .load 31 (.tmp 9), none⟩,
    ⟨some 59, .call { callee := .value (.func 82), args := #[.tmp 58], argTypes := #[31] }, none⟩,
    ⟨some 60, .build 97 #[(0, .tmp 59)], none⟩,
    ⟨some 61, .box 97 (.tmp 60), none⟩,
    ⟨some 11, .assign (.tmp 61), none⟩])
  (.seq
  (.reg [
    ⟨some 62, .move (.tmp 11), none⟩,
    ⟨some 63, .move (.tmp 11), none⟩,
    ⟨some 64, .fieldAddr 31 (.tmp 9) 2, none⟩,
    ⟨some 65, .load 29 (.tmp 64), none⟩,
    ⟨some 66, .indexAddr 29 (.tmp 65) (.const (.int .i64 0)), none⟩,
    ⟨some 67, .load 3 (.tmp 66), none⟩,
    ⟨some 68, .call { callee := .value (.func 67), args := #[.tmp 63, .tmp 67, .const (.int .i64 0)], argTypes := #[72, 3, 3] }, none⟩,
    ⟨some 69, .buildSlice 29 1 #[(0, .tmp 68)], none⟩,
    ⟨some 70, .call { callee := .value (.func 69), args := #[.tmp 62, .tmp 69], argTypes := #[72, 29] }, none⟩,
    ⟨some 71, .call { callee := .value (.func 68), args := #[.tmp 70], argTypes := #[31] }, none⟩,
    ⟨some 72, .extract (.tmp 71) 0, none⟩,
    ⟨some 73, .extract (.tmp 71) 1, none⟩,
    ⟨none, .store 31 (.tmp 2) (.tmp 72), none⟩,
    ⟨some 3, .assign (.tmp 73), none⟩])
  .ret)))))))))
theorem hd59 : Try.f59.body.map dec = some c59 := by kernel_rfl
theorem e59 {R : AV → AH → Prop} {h : AH} (x0 : AV) (H : h.wf → AI Try.prog c59 (RetQ Try.prog [.cell 2 31, .tmp 3] R) [x0, un, un, un, un, un, un, un, un, un, un, un, un, un, un, un, un, un, un, un, un, un, un, un, un, un, un, un, un, un, un, un, un, un, un, un, un, un, un, un, un, un, un, un, un, un, un, un, un, un, un, un, un, un, un, un, un, un, un, un, un, un, un, un, un, un, un, un, un, un, un, un, un, un] h) : AC Try.prog 59 [x0] h R :=
  AC_of' (rs := [.cell 2 31, .tmp 3]) Try.func59 (by kernel_rfl) hd59 Try.ntmps59 rfl H

/-- impl.FactorCost -/
def c18 : IC :=
  (.seq
  (.reg [
    ⟨some 2, .assign (.const (.int .i64 0)), none⟩,
    ⟨some 3, .assign (.const (.bool false)), none⟩])
  (.seq
  (.reg [
    ⟨some 7, .move (.tmp 0), none⟩,
    ⟨some 8, .call { callee := .value (.func 59), args := #[.tmp 7], argTypes := #[3] }, none⟩,
    ⟨some 6, .move (.tmp 8), none⟩,
    ⟨some 9, .extract (.tmp 6) 0, none⟩,
    ⟨some 10, .extract (.tmp 6) 1, none⟩,
    ⟨some 4, .alloc 31, none⟩,
    ⟨none, .store 31 (.tmp 4) (.tmp 9), none⟩,
    ⟨some 5, .assign (.tmp 10), none⟩])
  (.seq
  (.reg [
    ⟨some 11, .fieldAddr 31 (.tmp 4) 1, none⟩,
    ⟨some 12, .load 28 (.tmp 11), none⟩,
    ⟨some 13, .call { callee := .builtin .len, args := #[.tmp 12], argTypes := #[28] }, none⟩,
    ⟨some 14, .move (.tmp 5), none⟩,
    ⟨some 2, .assign (.tmp 13), none⟩,
    ⟨some 3, .assign (.tmp 14), none⟩])
  .ret)))
theorem hd18 : Try.f18.body.map dec = some c18 := by kernel_rfl
theorem e18 {R : AV → AH → Prop} {h : AH} (x0 : AV) (H : h.wf → AI Try.prog c18 (RetQ Try.prog [.tmp 2, .tmp 3] R) [x0, un, un, un, un, un, un, un, un, un, un, un, un, un, un] h) : AC Try.prog 18 [x0] h R :=
  AC_of' (rs := [.tmp 2, .tmp 3]) Try.func18 (by kernel_rfl) hd18 Try.ntmps18 rfl H

/-- laws.big -/
def c19 : IC :=
  (.seq
  (.reg [
    ⟨some 4, .assign (.const (.bool false)), none⟩])
  (.seq
  (.reg [
    ⟨some 5, .move (.tmp 0), none⟩,
    ⟨some 6, .call { callee := .builtin .len, args := #[.tmp 5], argTypes := #[25] }, none⟩,
    ⟨some 7, .binOp .gtr 3 (.tmp 6) (.const (.int .i64 1048576)) 3, none⟩,
    ⟨some 8, .move (.tmp 7), none⟩,
    ⟨some 9, .move (.tmp 1), some (8, false)⟩,
    ⟨some 10, .call { callee := .builtin .len, args := #[.tmp 9], argTypes := #[25] }, some (8, false)⟩,
    ⟨some 11, .move (.tmp 0), some (8, false)⟩,
    ⟨some 12, .call { callee := .builtin .len, args := #[.tmp 11], argTypes := #[25] }, some (8, false)⟩,
    ⟨some 13, .binOp .sub 3 (.const (.int .i64 1048576)) (.tmp 12) 3, some (8, false)⟩,
    ⟨some 14, .binOp .gtr 3 (.tmp 10) (.tmp 13) 3, some (8, false)⟩,
    ⟨some 15, .pick (.tmp 8) (.const (.bool true)) (.tmp 14), none⟩,
    ⟨some 4, .assign (.tmp 15), none⟩])
  .ret))
theorem hd19 : Try.f19.body.map dec = some c19 := by kernel_rfl
theorem e19 {R : AV → AH → Prop} {h : AH} (x0 x1 : AV) (H : h.wf → AI Try.prog c19 (RetQ Try.prog [.tmp 4] R) [x0, x1, un, un, un, un, un, un, un, un, un, un, un, un, un, un] h) : AC Try.prog 19 [x0, x1] h R :=
  AC_of' (rs := [.tmp 4]) Try.func19 (by kernel_rfl) hd19 Try.ntmps19 rfl H

noncomputable def rg130_0 : Array Oper := rawAt Try.f130 0
noncomputable def rg130_1 : Array Oper := rawAt Try.f130 1
noncomputable def rg130_2 : Array Oper := rawAt Try.f130 2
/-- (*spec.l1Cur).next -/
noncomputable def c130 : IC :=
  (.seq
  (.reg [
    ⟨some 2, .assign (.const (.int .i64 0)), none⟩])
  (.seq
  (.reg [
    ⟨some 3, .assign (.const (.int .i64 0)), none⟩])
  (.seq
  (.seq
  (.raw (.region 2 rg130_0 true))
  (.cond (.tmp 13)
    (.raw (.region 3 rg130_1 true))
    .skip))
  (.seq
  (.reg [
    ⟨some 25, .move (.tmp 0), none⟩,
    ⟨some 26, .nilCheck (.tmp 25), none⟩,
    ⟨some 27, .fieldAddr 69 (.tmp 26) 1, none⟩,
    ⟨some 28, .load 3 (.tmp 27), none⟩,
    ⟨some 29, .binOp .add 3 (.tmp 28) (.const (.int .i64 1)) 3, none⟩,
    ⟨some 30, .nilCheck (.tmp 25), none⟩,
    ⟨some 31, .fieldAddr 69 (.tmp 30) 1, none⟩,
    ⟨none, .store 3 (.tmp 31) (.tmp 29), none⟩])
  (.seq
  (.reg [
    ⟨some 32, .move (.tmp 0), none⟩,
    ⟨some 33, .move (.tmp 0), none⟩,
    ⟨some 34, .nilCheck (.tmp 33), none⟩,
    ⟨some 35, .fieldAddr 69 (.tmp 34) 2, none⟩,
    ⟨some 36, .load 67 (.tmp 35), none⟩,
    ⟨some 37, .binOp .mul 67 (.tmp 36) (.const (.int .u64 6364136223846793005)) 67, none⟩,
    ⟨some 38, .move (.tmp 3), none⟩,
    ⟨some 39, .convert 3 67 (.tmp 38), none⟩,
    ⟨some 40, .binOp .add 67 (.tmp 37) (.tmp 39) 67, none⟩,
    ⟨some 41, .binOp .add 67 (.tmp 40) (.const (.int .u64 1442695040888963407)) 67, none⟩,
    ⟨some 42, .nilCheck (.tmp 32), none⟩,
    ⟨some 43, .fieldAddr 69 (.tmp 42) 2, none⟩,
    ⟨none, .store 67 (.tmp 43) (.tmp 41), none⟩])
  (.seq
  (.seq
  (.raw (.region 6 rg130_2 true))
  (.cond (.tmp 53)
    (.seq
    (.reg [
      ⟨some 54, .move (.tmp 3), none⟩,
      ⟨some 2, .assign (.tmp 54), none⟩])
    .ret)
    .skip))
  (.seq
  (.reg [
    ⟨some 55, .move (.tmp 0), none⟩,
    ⟨some 56, .nilCheck (.tmp 55), none⟩,
    ⟨some 57, .fieldAddr 69 (.tmp 56) 2, none⟩,
    ⟨some 58, .load 67 (.tmp 57), none⟩,
    ⟨some 59, .binOp .shr 67 (.tmp 58) (.const (.int .u64 40)) 105, none⟩,
    ⟨some 60, .binOp .and 67 (.tmp 59) (.const (.int .u64 255)) 67, none⟩,
    ⟨some 61, .convert 67 3 (.tmp 60), none⟩,
    ⟨some 2, .assign (.tmp 61), none⟩])
  .ret)))))))
theorem hd130 : Try.f130.body.map dec = some c130 := by kernel_rfl
theorem e130 {R : AV → AH → Prop} {h : AH} (x0 : AV) (H : h.wf → AI Try.prog c130 (RetQ Try.prog [.tmp 2] R) [x0, un, un, un, un, un, un, un, un, un, un, un, un, un, un, un, un, un, un, un, un, un, un, un, un, un, un, un, un, un, un, un, un, un, un, un, un, un, un, un, un, un, un, un, un, un, un, un, un, un, un, un, un, un, un, un, un, un, un, un, un, un] h) : AC Try.prog 130 [x0] h R :=
  AC_of' (rs := [.tmp 2]) Try.func130 (by kernel_rfl) hd130 Try.ntmps130 rfl H
theorem dz130_0 {h0 : AH} {L : List It} {Q : Exit → List AV → List It → Prop} {a : List AV} {id : Nat} (H : LX Try.prog ⟨[], []⟩ h0 L L (.c (⟨some 4, .move (.tmp 0), none⟩, .p) <| .c (⟨some 5, .nilCheck (.tmp 4), none⟩, .p) <| .c (⟨some 6, .fieldAddr 69 (.tmp 5) 1, none⟩, .p) <| .c (⟨some 7, .load 3 (.tmp 6), none⟩, .l) <| .c (⟨some 8, .move (.tmp 0), none⟩, .p) <| .c (⟨some 9, .nilCheck (.tmp 8), none⟩, .p) <| .c (⟨some 10, .fieldAddr 69 (.tmp 9) 0, none⟩, .p) <| .c (⟨some 11, .load 25 (.tmp 10), none⟩, .l) <| .c (⟨some 12, .call { callee := .builtin .len, args := #[.tmp 11], argTypes := #[25] }, none⟩, .p) <| .c (⟨some 13, .binOp .lss 3 (.tmp 7) (.tmp 12) 3, none⟩, .p) <| .n) Q a) : LI Try.prog h0 L (.raw (.region id rg130_0 true)) Q a :=
  LI_draw (.c (0, .p) <| .c (1, .p) <| .c (2, .p) <| .c (3, .l) <| .c (4, .p) <| .c (5, .p) <| .c (6, .p) <| .c (7, .l) <| .c (8, .p) <| .c (9, .p) <| .n) [] (by kernel_rfl) (by kernel_rfl) (by kernel_rfl) H
theorem dr130_0 (m : Nat) {Q : Exit → List AV → AH → Prop} {a : List AV} {h : AH} {id : Nat} (H : AX Try.prog m h [(⟨some 4, .move (.tmp 0), none⟩, true),
  (⟨some 5, .nilCheck (.tmp 4), none⟩, true),
  (⟨some 6, .fieldAddr 69 (.tmp 5) 1, none⟩, true),
  (⟨some 7, .load 3 (.tmp 6), none⟩, true),
  (⟨some 8, .move (.tmp 0), none⟩, true),
  (⟨some 9, .nilCheck (.tmp 8), none⟩, true),
  (⟨some 10, .fieldAddr 69 (.tmp 9) 0, none⟩, true),
  (⟨some 11, .load 25 (.tmp 10), none⟩, true),
  (⟨some 12, .call { callee := .builtin .len, args := #[.tmp 11], argTypes := #[25] }, none⟩, true),
  (⟨some 13, .binOp .lss 3 (.tmp 7) (.tmp 12) 3, none⟩, true)] (fun a' h' => Q .normal a' h') a h) : AI Try.prog (.raw (.region id rg130_0 true)) Q a h :=
  AI_draw [(0, true), (1, true), (2, true), (3, true), (4, true), (5, true), (6, true), (7, true), (8, true), (9, true)] m (by kernel_rfl) (by kernel_rfl) (by kernel_rfl) H
theorem dz130_1 {h0 : AH} {L : List It} {Q : Exit → List AV → List It → Prop} {a : List AV} {id : Nat} (H : LX Try.prog ⟨[], []⟩ h0 L L (.c (⟨some 14, .move (.tmp 0), none⟩, .p) <| .c (⟨some 15, .nilCheck (.tmp 14), none⟩, .p) <| .c (⟨some 16, .fieldAddr 69 (.tmp 15) 0, none⟩, .p) <| .c (⟨some 17, .load 25 (.tmp 16), none⟩, .l) <| .c (⟨some 18, .move (.tmp 0), none⟩, .p) <| .c (⟨some 19, .nilCheck (.tmp 18), none⟩, .p) <| .c (⟨some 20, .fieldAddr 69 (.tmp 19) 1, none⟩, .p) <| .c (⟨some 21, .load 3 (.tmp 20), none⟩, .l) <| .c (⟨some 22, .indexAddr 25 (.tmp 17) (.tmp 21), none⟩, .p) <| .c (⟨some 23, .load 5 (.tmp 22), none⟩, .l) <| .c (⟨some 24, .convert 5 3 (.tmp 23), none⟩, .p) <| .c (⟨some 3, .assign (.tmp 24), none⟩, .p) <| .n) Q a) : LI Try.prog h0 L (.raw (.region id rg130_1 true)) Q a :=
  LI_draw (.c (0, .p) <| .c (1, .p) <| .c (2, .p) <| .c (3, .l) <| .c (4, .p) <| .c (5, .p) <| .c (6, .p) <| .c (7, .l) <| .c (8, .p) <| .c (9, .l) <| .c (10, .p) <| .c (11, .p) <| .n) [] (by kernel_rfl) (by kernel_rfl) (by kernel_rfl) H
theorem dr130_1 (m : Nat) {Q : Exit → List AV → AH → Prop} {a : List AV} {h : AH} {id : Nat} (H : AX Try.prog m h [(⟨some 14, .move (.tmp 0), none⟩, true),
  (⟨some 15, .nilCheck (.tmp 14), none⟩, true),
  (⟨some 16, .fieldAddr 69 (.tmp 15) 0, none⟩, true),
  (⟨some 17, .load 25 (.tmp 16), none⟩, true),
  (⟨some 18, .move (.tmp 0), none⟩, true),
  (⟨some 19, .nilCheck (.tmp 18), none⟩, true),
  (⟨some 20, .fieldAddr 69 (.tmp 19) 1, none⟩, true),
  (⟨some 21, .load 3 (.tmp 20), none⟩, true),
  (⟨some 22, .indexAddr 25 (.tmp 17) (.tmp 21), none⟩, true),
  (⟨some 23, .load 5 (.tmp 22), none⟩, true),
  (⟨some 24, .convert 5 3 (.tmp 23), none⟩, true),
  (⟨some 3, .assign (.tmp 24), none⟩, true)] (fun a' h' => Q .normal a' h') a h) : AI Try.prog (.raw (.region id rg130_1 true)) Q a h :=
  AI_draw [(0, true), (1, true), (2, true), (3, true), (4, true), (5, true), (6, true), (7, true), (8, true), (9, true), (10, true), (11, true)] m (by kernel_rfl) (by kernel_rfl) (by kernel_rfl) H
theorem dz130_2 {h0 : AH} {L : List It} {Q : Exit → List AV → List It → Prop} {a : List AV} {id : Nat} (H : LX Try.prog ⟨[], []⟩ h0 L L (.c (⟨some 44, .move (.tmp 0), none⟩, .p) <| .c (⟨some 45, .nilCheck (.tmp 44), none⟩, .p) <| .c (⟨some 46, .fieldAddr 69 (.tmp 45) 1, none⟩, .p) <| .c (⟨some 47, .load 3 (.tmp 46), none⟩, .l) <| .c (⟨some 48, .move (.tmp 0), none⟩, .p) <| .c (⟨some 49, .nilCheck (.tmp 48), none⟩, .p) <| .c (⟨some 50, .fieldAddr 69 (.tmp 49) 0, none⟩, .p) <| .c (⟨some 51, .load 25 (.tmp 50), none⟩, .l) <| .c (⟨some 52, .call { callee := .builtin .len, args := #[.tmp 51], argTypes := #[25] }, none⟩, .p) <| .c (⟨some 53, .binOp .leq 3 (.tmp 47) (.tmp 52) 3, none⟩, .p) <| .n) Q a) : LI Try.prog h0 L (.raw (.region id rg130_2 true)) Q a :=
  LI_draw (.c (0, .p) <| .c (1, .p) <| .c (2, .p) <| .c (3, .l) <| .c (4, .p) <| .c (5, .p) <| .c (6, .p) <| .c (7, .l) <| .c (8, .p) <| .c (9, .p) <| .n) [] (by kernel_rfl) (by kernel_rfl) (by kernel_rfl) H
theorem dr130_2 (m : Nat) {Q : Exit → List AV → AH → Prop} {a : List AV} {h : AH} {id : Nat} (H : AX Try.prog m h [(⟨some 44, .move (.tmp 0), none⟩, true),
  (⟨some 45, .nilCheck (.tmp 44), none⟩, true),
  (⟨some 46, .fieldAddr 69 (.tmp 45) 1, none⟩, true),
  (⟨some 47, .load 3 (.tmp 46), none⟩, true),
  (⟨some 48, .move (.tmp 0), none⟩, true),
  (⟨some 49, .nilCheck (.tmp 48), none⟩, true),
  (⟨some 50, .fieldAddr 69 (.tmp 49) 0, none⟩, true),
  (⟨some 51, .load 25 (.tmp 50), none⟩, true),
  (⟨some 52, .call { callee := .builtin .len, args := #[.tmp 51], argTypes := #[25] }, none⟩, true),
  (⟨some 53, .binOp .leq 3 (.tmp 47) (.tmp 52) 3, none⟩, true)] (fun a' h' => Q .normal a' h') a h) : AI Try.prog (.raw (.region id rg130_2 true)) Q a h :=
  AI_draw [(0, true), (1, true), (2, true), (3, true), (4, true), (5, true), (6, true), (7, true), (8, true), (9, true)] m (by kernel_rfl) (by kernel_rfl) (by kernel_rfl) H

/-- (*spec.l1Cur).pick -/
def c78 : IC :=
  (.seq
  (.reg [
    ⟨some 4, .assign (.const (.int .i64 0)), none⟩])
  (.seq
  (.seq
  (.reg [
    ⟨some 6, .move (.tmp 1), none⟩,
    ⟨some 7, .binOp .leq 3 (.tmp 6) (.const (.int .i64 1)) 3, none⟩])
  (.cond (.tmp 7)
    (.seq
    (.reg [
      ⟨some 4, .assign (.const (.int .i64 0)), none⟩])
    .ret)
    .skip))
  (.seq
  (.reg [
    ⟨some 8, .move (.tmp 0), none⟩,
    ⟨some 9, .call { callee := .value (.func 130), args := #[.tmp 8], argTypes := #[66] }, none⟩,
    ⟨some 5, .assign (.tmp 9), none⟩])
  (.seq
  (.seq
  (.reg [
    ⟨some 10, .move (.tmp 1), none⟩,
    ⟨some 11, .binOp .gtr 3 (.tmp 10) (.const (.int .i64 200)) 3, none⟩])
  (.cond (.tmp 11)
    (.reg [
      ⟨some 12, .move (.tmp 5), none⟩,
      ⟨some 13, .binOp .mul 3 (.tmp 12) (.const (.int .i64 256)) 3, none⟩,
      ⟨some 14, .move (.tmp 0), none⟩,
      ⟨some 15, .call { callee := .value (.func 130), args := #[.tmp 14], argTypes := #[66] }, none⟩,
      ⟨some 16, .binOp .add 3 (.tmp 13) (.tmp 15) 3, none⟩,
      ⟨some 5, .assign (.tmp 16), none⟩])
    .skip))
  (.seq
  (.reg [
    ⟨some 17, .move (.tmp 5), none⟩,
    ⟨some 18, .move (.tmp 1), none⟩,
    ⟨some 19, .binOp .rem 3 (.tmp 17) (.tmp 18) 3, none⟩,
    ⟨some 4, .assign (.tmp 19), none⟩])
  .ret)))))
theorem hd78 : Try.f78.body.map dec = some c78 := by kernel_rfl
theorem e78 {R : AV → AH → Prop} {h : AH} (x0 x1 : AV) (H : h.wf → AI Try.prog c78 (RetQ Try.prog [.tmp 4] R) [x0, x1, un, un, un, un, un, un, un, un, un, un, un, un, un, un, un, un, un, un] h) : AC Try.prog 78 [x0, x1] h R :=
  AC_of' (rs := [.tmp 4]) Try.func78 (by kernel_rfl) hd78 Try.ntmps78 rfl H

/-- (*spec.l1Cur).among -/
def c126 : IC :=
  (.seq
  (.reg [
    ⟨some 4, .assign (.const (.int .i64 0)), none⟩])
  (.seq
  (.reg [
    ⟨some 5, .move (.tmp 1), none⟩,
    ⟨some 6, .move (.tmp 0), none⟩,
    ⟨some 7, .move (.tmp 1), none⟩,
    ⟨some 8, .call { callee := .builtin .len, args := #[.tmp 7], argTypes := #[29] }, none⟩,
    ⟨some 9, .call { callee := .value (.func 78), args := #[.tmp 6, .tmp 8], argTypes := #[66, 3] }, none⟩,
    ⟨some 10, .indexAddr 29 (.tmp 5) (.tmp 9), none⟩,
    ⟨some 11, .load 3 (.tmp 10), none⟩,
    ⟨some 4, .assign (.tmp 11), none⟩])
  .ret))
theorem hd126 : Try.f126.body.map dec = some c126 := by kernel_rfl
theorem e126 {R : AV → AH → Prop} {h : AH} (x0 x1 : AV) (H : h.wf → AI Try.prog c126 (RetQ Try.prog [.tmp 4] R) [x0, x1, un, un, un, un, un, un, un, un, un, un] h) : AC Try.prog 126 [x0, x1] h R :=
  AC_of' (rs := [.tmp 4]) Try.func126 (by kernel_rfl) hd126 Try.ntmps126 rfl H

/-- (*spec.l1Cur).number -/
def c60 : IC :=
  (.seq
  (.reg [
    ⟨some 2, .assign (.const (.int .i64 0)), none⟩])
  (.seq
  (.seq
  (.reg [
    ⟨some 3, .move (.tmp 0), none⟩,
    ⟨some 4, .call { callee := .value (.func 78), args := #[.tmp 3, .const (.int .i64 8)], argTypes := #[66, 3] }, none⟩])
  (.block 0
  (.seq
  (.reg [
    ⟨some 6, .binOp .eql 3 (.tmp 4) (.const (.int .i64 0)) 3, none⟩,
    ⟨some 5, .assign (.tmp 6), none⟩])
  (.cond (.tmp 5)
    (.seq
    (.reg [
      ⟨some 7, .move (.tmp 0), none⟩,
      ⟨some 8, .buildSlice 29 6 #[(0, .const (.int .i64 (-1))), (1, .const (.int .i64 0)), (2, .const (.int .i64 1)), (3, .const (.int .i64 2)), (4, .const (.int .i64 1000000)), (5, .const (.int .i64 1000001))], none⟩,
      ⟨some 9, .call { callee := .value (.func 126), args := #[.tmp 7, .tmp 8], argTypes := #[66, 29] }, none⟩,
      ⟨some 2, .assign (.tmp 9), none⟩])
    .ret)
    (.seq
    (.reg [
      ⟨some 11, .binOp .eql 3 (.tmp 4) (.const (.int .i64 1)) 3, none⟩,
      ⟨some 10, .assign (.tmp 11), none⟩])
    (.cond (.tmp 10)
      (.seq
      (.reg [
        ⟨some 12, .move (.tmp 0), none⟩,
        ⟨some 13, .call { callee := .value (.func 78), args := #[.tmp 12, .const (.int .i64 1000000)], argTypes := #[66, 3] }, none⟩,
        ⟨some 14, .binOp .add 3 (.const (.int .i64 1)) (.tmp 13) 3, none⟩,
        ⟨some 2, .assign (.tmp 14), none⟩])
      .ret)
      .skip))))))
  (.seq
  (.reg [
    ⟨some 15, .move (.tmp 0), none⟩,
    ⟨some 16, .call { callee := .value (.func 78), args := #[.tmp 15, .const (.int .i64 120)], argTypes := #[66, 3] }, none⟩,
    ⟨some 17, .binOp .add 3 (.const (.int .i64 1)) (.tmp 16) 3, none⟩,
    ⟨some 2, .assign (.tmp 17), none⟩])
  .ret)))
theorem hd60 : Try.f60.body.map dec = some c60 := by kernel_rfl
theorem e60 {R : AV → AH → Prop} {h : AH} (x0 : AV) (H : h.wf → AI Try.prog c60 (RetQ Try.prog [.tmp 2] R) [x0, un, un, un, un, un, un, un, un, un, un, un, un, un, un, un, un, un] h) : AC Try.prog 60 [x0] h R :=
  AC_of' (rs := [.tmp 2]) Try.func60 (by kernel_rfl) hd60 Try.ntmps60 rfl H

/-- spec.DrawFactorCost -/
def c20 : IC :=
  (.seq
  (.reg [
    ⟨some 2, .assign (.const (.int .i64 0)), none⟩])
  (.seq
  (.reg [
    ⟨some 4, .move (.tmp 0), none⟩,
    ⟨some 5, .build 69 #[(0, .tmp 4)], none⟩,
    ⟨some 6, .box 69 (.tmp 5), none⟩,
    ⟨some 3, .assign (.tmp 6), none⟩])
  (.seq
  (.reg [
    ⟨some 7, .move (.tmp 3), none⟩,
    ⟨some 8, .call { callee := .value (.func 60), args := #[.tmp 7], argTypes := #[66] }, none⟩,
    ⟨some 2, .assign (.tmp 8), none⟩])
  .ret)))
theorem hd20 : Try.f20.body.map dec = some c20 := by kernel_rfl
theorem e20 {R : AV → AH → Prop} {h : AH} (x0 : AV) (H : h.wf → AI Try.prog c20 (RetQ Try.prog [.tmp 2] R) [x0, un, un, un, un, un, un, un, un] h) : AC Try.prog 20 [x0] h R :=
  AC_of' (rs := [.tmp 2]) Try.func20 (by kernel_rfl) hd20 Try.ntmps20 rfl H

/-- impl.LeastFactor -/
def c21 : IC :=
  (.seq
  (.reg [
    ⟨some 2, .assign (.const (.int .i64 0)), none⟩,
    ⟨some 3, .assign (.const (.bool false)), none⟩])
  (.seq
  (.seq
  (.reg [
    ⟨some 4, .move (.tmp 0), none⟩,
    ⟨some 5, .call { callee := .value (.func 61), args := #[.tmp 4], argTypes := #[3] }, none⟩,
    ⟨some 6, .unOp .not 4 (.tmp 5), none⟩,
    ⟨some 7, .move (.tmp 6), none⟩,
    ⟨some 8, .move (.tmp 0), some (7, false)⟩,
    ⟨some 9, .binOp .eql 3 (.tmp 8) (.const (.int .i64 1)) 3, some (7, false)⟩,
    ⟨some 10, .pick (.tmp 7) (.const (.bool true)) (.tmp 9), none⟩])
  (.cond (.tmp 10)
    (.seq
    (.reg [
      ⟨some 2, .assign (.const (.int .i64 0)), none⟩,
      ⟨some 3, .assign (.const (.bool false)), none⟩])
    .ret)
    .skip))
  (.seq
  (.reg [
    ⟨some 11, .move (.tmp 0), none⟩,
    ⟨some 12, .call { callee := .value (.func 62), args := #[.tmp 11], argTypes := #[3] }, none⟩,
    ⟨some 2, .assign (.tmp 12), none⟩,
    ⟨some 3, .assign (.const (.bool true)), none⟩])
  .ret)))
theorem hd21 : Try.f21.body.map dec = some c21 := by kernel_rfl
theorem e21 {R : AV → AH → Prop} {h : AH} (x0 : AV) (H : h.wf → AI Try.prog c21 (RetQ Try.prog [.tmp 2, .tmp 3] R) [x0, un, un, un, un, un, un, un, un, un, un, un, un] h) : AC Try.prog 21 [x0] h R :=
  AC_of' (rs := [.tmp 2, .tmp 3]) Try.func21 (by kernel_rfl) hd21 Try.ntmps21 rfl H

/-- laws.FnFactorsCost -/
def c5 : IC :=
  (.seq
  (.reg [
    ⟨some 4, .assign (.const (.bool false)), none⟩])
  (.seq
  (.seq
  (.reg [
    ⟨some 20, .move (.tmp 0), none⟩,
    ⟨some 21, .move (.tmp 1), none⟩,
    ⟨some 22, .call { callee := .value (.func 19), args := #[.tmp 20, .tmp 21], argTypes := #[25, 25] }, none⟩])
  (.cond (.tmp 22)
    (.seq
    (.reg [
      ⟨some 4, .assign (.const (.bool true)), none⟩])
    .ret)
    .skip))
  (.seq
  (.reg [
    ⟨some 23, .move (.tmp 0), none⟩,
    ⟨some 24, .call { callee := .value (.func 20), args := #[.tmp 23], argTypes := #[25] }, none⟩,
    ⟨some 5, .assign (.tmp 24), none⟩])
  (.seq
  (.reg [
    ⟨some 26, .move (.tmp 5), none⟩,
    ⟨some 27, .call { callee := .value (.func 18), args := #[.tmp 26], argTypes := #[3] }, none⟩,
    ⟨some 25, .move (.tmp 27), none⟩,
    ⟨some 28, .extract (.tmp 25) 0, none⟩,
    ⟨some 29, .extract (.tmp 25) 1, none⟩,
    ⟨some 6, .assign (.tmp 28), none⟩,
    ⟨some 7, .assign (.tmp 29), none⟩])
  (.seq
  (.reg [
    ⟨some 31, .move (.tmp 5), none⟩,
    ⟨some 32, .call { callee := .value (.func 17), args := #[.tmp 31], argTypes := #[3] }, none⟩,
    ⟨some 30, .move (.tmp 32), none⟩,
    ⟨some 33, .extract (.tmp 30) 0, none⟩,
    ⟨some 34, .extract (.tmp 30) 1, none⟩,
    ⟨some 8, .assign (.tmp 33), none⟩,
    ⟨some 9, .assign (.tmp 34), none⟩])
  (.seq
  (.seq
  (.reg [
    ⟨some 35, .move (.tmp 7), none⟩,
    ⟨some 36, .move (.tmp 9), none⟩,
    ⟨some 37, .binOp .neq 4 (.tmp 35) (.tmp 36) 4, none⟩,
    ⟨some 38, .move (.tmp 37), none⟩,
    ⟨some 39, .move (.tmp 6), some (38, false)⟩,
    ⟨some 40, .move (.tmp 8), some (38, false)⟩,
    ⟨some 41, .binOp .neq 3 (.tmp 39) (.tmp 40) 3, some (38, false)⟩,
    ⟨some 42, .pick (.tmp 38) (.const (.bool true)) (.tmp 41), none⟩])
  (.cond (.tmp 42)
    (.seq
    (.reg [
      ⟨some 4, .assign (.const (.bool false)), none⟩])
    .ret)
    .skip))
  (.seq
  (.seq
  (.reg [
    ⟨some 43, .move (.tmp 9), none⟩,
    ⟨some 44, .unOp .not 4 (.tmp 43), none⟩])
  (.cond (.tmp 44)
    (.seq
    (.reg [
      ⟨some 4, .assign (.const (.bool true)), none⟩])
    .ret)
    .skip))
  (.seq
  (.reg [
    ⟨some 46, .move (.tmp 5), none⟩,
    ⟨some 47, .call { callee := .value (.func 21), args := #[.tmp 46], argTypes := #[3] }, none⟩,
    ⟨some 45, .move (.tmp 47), none⟩,
    ⟨some 48, .extract (.tmp 45) 0, none⟩,
    ⟨some 49, .extract (.tmp 45) 1, none⟩,
    ⟨some 10, .assign (.tmp 48), none⟩,
    ⟨some 11, .assign (.tmp 49), none⟩])
  (.seq
  (.seq
  (.reg [
    ⟨some 50, .move (.tmp 11), none⟩,
    ⟨some 51, .unOp .not 4 (.tmp 50), none⟩])
  (.cond (.tmp 51)
    (.seq
    (.reg [
      ⟨some 52, .move (.tmp 5), none⟩,
      ⟨some 53, .binOp .eql 3 (.tmp 52) (.const (.int .i64 1)) 3, none⟩,
      ⟨some 54, .move (.tmp 53), none⟩,
      ⟨some 55, .move (.tmp 6), some (54, true)⟩,
      ⟨some 56, .binOp .eql 3 (.tmp 55) (.const (.int .i64 0)) 3, some (54, true)⟩,
      ⟨some 57, .pick (.tmp 54) (.tmp 56) (.const (.bool false)), none⟩,
      ⟨some 4, .assign (.tmp 57), none⟩])
    .ret)
    .skip))
  (.seq
  (.seq
  (.reg [
    ⟨some 58, .move (.tmp 10), none⟩,
    ⟨some 59, .move (.tmp 5), none⟩,
    ⟨some 60, .binOp .eql 3 (.tmp 58) (.tmp 59) 3, none⟩])
  (.cond (.tmp 60)
    (.seq
    (.reg [
      ⟨some 62, .move (.tmp 5), none⟩,
      ⟨some 63, .binOp .sub 3 (.tmp 62) (.const (.int .i64 1)) 3, none⟩,
      ⟨some 64, .call { callee := .value (.func 18), args := #[.tmp 63], argTypes := #[3] }, none⟩,
      ⟨some 61, .move (.tmp 64), none⟩,
      ⟨some 65, .extract (.tmp 61) 0, none⟩,
      ⟨some 66, .extract (.tmp 61) 1, none⟩,
      ⟨some 12, .assign (.tmp 65), none⟩,
      ⟨some 13, .assign (.tmp 66), none⟩])
    (.seq
    (.reg [
      ⟨some 67, .move (.tmp 13), none⟩,
      ⟨some 68, .move (.tmp 67), none⟩,
      ⟨some 69, .move (.tmp 6), some (68, true)⟩,
      ⟨some 70, .move (.tmp 12), some (68, true)⟩,
      ⟨some 71, .binOp .add 3 (.tmp 70) (.const (.int .i64 1)) 3, some (68, true)⟩,
      ⟨some 72, .binOp .eql 3 (.tmp 69) (.tmp 71) 3, some (68, true)⟩,
      ⟨some 73, .pick (.tmp 68) (.tmp 72) (.const (.bool false)), none⟩,
      ⟨some 4, .assign (.tmp 73), none⟩])
    .ret))
    .skip))
  (.seq
  (.reg [
    ⟨some 75, .move (.tmp 10), none⟩,
    ⟨some 76, .call { callee := .value (.func 18), args := #[.tmp 75], argTypes := #[3] }, none⟩,
    ⟨some 74, .move (.tmp 76), none⟩,
    ⟨some 77, .extract (.tmp 74) 0, none⟩,
    ⟨some 78, .extract (.tmp 74) 1, none⟩,
    ⟨some 14, .assign (.tmp 77), none⟩,
    ⟨some 15, .assign (.tmp 78), none⟩])
  (.seq
  (.reg [
    ⟨some 80, .move (.tmp 5), none⟩,
    ⟨some 81, .move (.tmp 10), none⟩,
    ⟨some 82, .binOp .quo 3 (.tmp 80) (.tmp 81) 3, none⟩,
    ⟨some 83, .call { callee := .value (.func 18), args := #[.tmp 82], argTypes := #[3] }, none⟩,
    ⟨some 79, .move (.tmp 83), none⟩,
    ⟨some 84, .extract (.tmp 79) 0, none⟩,
    ⟨some 85, .extract (.tmp 79) 1, none⟩,
    ⟨some 16, .assign (.tmp 84), none⟩,
    ⟨some 17, .assign (.tmp 85), none⟩])
  (.seq
  (.reg [
    ⟨some 87, .move (.tmp 10), none⟩,
    ⟨some 88, .call { callee := .value (.func 21), args := #[.tmp 87], argTypes := #[3] }, none⟩,
    ⟨some 86, .move (.tmp 88), none⟩,
    ⟨some 89, .extract (.tmp 86) 0, none⟩,
    ⟨some 90, .extract (.tmp 86) 1, none⟩,
    ⟨some 18, .assign (.tmp 89), none⟩,
    ⟨some 19, .assign (.tmp 90), none⟩])
  (.seq
  (.reg [
    ⟨some 91, .move (.tmp 15), none⟩,
    ⟨some 92, .move (.tmp 91), none⟩,
    ⟨some 93, .move (.tmp 17), some (92, true)⟩,
    ⟨some 94, .pick (.tmp 92) (.tmp 93) (.const (.bool false)), none⟩,
    ⟨some 95, .move (.tmp 94), none⟩,
    ⟨some 96, .move (.tmp 19), some (95, true)⟩,
    ⟨some 97, .pick (.tmp 95) (.tmp 96) (.const (.bool false)), none⟩,
    ⟨some 98, .move (.tmp 97), none⟩,
    ⟨some 99, .move (.tmp 5), some (98, true)⟩,
    ⟨some 100, .move (.tmp 10), some (98, true)⟩,
    ⟨some 101, .binOp .rem 3 (.tmp 99) (.tmp 100) 3, some (98, true)⟩,
    ⟨some 102, .binOp .eql 3 (.tmp 101) (.const (.int .i64 0)) 3, some (98, true)⟩,
    ⟨some 103, .pick (.tmp 98) (.tmp 102) (.const (.bool false)), none⟩,
    ⟨some 104, .move (.tmp 103), none⟩,
    ⟨some 105, .move (.tmp 10), some (104, true)⟩,
    ⟨some 106, .binOp .gtr 3 (.tmp 105) (.const (.int .i64 1)) 3, some (104, true)⟩,
    ⟨some 107, .pick (.tmp 104) (.tmp 106) (.const (.bool false)), none⟩,
    ⟨some 108, .move (.tmp 107), none⟩,
    ⟨some 109, .move (.tmp 18), some (108, true)⟩,
    ⟨some 110, .move (.tmp 10), some (108, true)⟩,
    ⟨some 111, .binOp .eql 3 (.tmp 109) (.tmp 110) 3, some (108, true)⟩,
    ⟨some 112, .pick (.tmp 108) (.tmp 111) (.const (.bool false)), none⟩,
    ⟨some 113, .move (.tmp 112), none⟩,
    ⟨some 114, .move (.tmp 6), some (113, true)⟩,
    ⟨some 115, .move (.tmp 14), some (113, true)⟩,
    ⟨some 116, .move (.tmp 16), some (113, true)⟩,
    ⟨some 117, .binOp .add 3 (.tmp 115) (.tmp 116) 3, some (113, true)⟩,
    ⟨some 118, .binOp .eql 3 (.tmp 114) (.tmp 117) 3, some (113, true)⟩,
    ⟨some 119, .pick (.tmp 113) (.tmp 118) (.const (.bool false)), none⟩,
    ⟨some 4, .assign (.tmp 119), none⟩])
  .ret))))))))))))))
theorem hd5 : Try.f5.body.map dec = some c5 := by kernel_rfl
theorem e5 {R : AV → AH → Prop} {h : AH} (x0 x1 : AV) (H : h.wf → AI Try.prog c5 (RetQ Try.prog [.tmp 4] R) [x0, x1, un, un, un, un, un, un, un, un, un, un, un, un, un, un, un, un, un, un, un, un, un, un, un, un, un, un, un, un, un, un, un, un, un, un, un, un, un, un, un, un, un, un, un, un, un, un, un, un, un, un, un, un, un, un, un, un, un, un, un, un, un, un, un, un, un, un, un, un, un, un, un, un, un, un, un, un, un, un, un, un, un, un, un, un, un, un, un, un, un, un, un, un, un, un, un, un, un, un, un, un, un, un, un, un, un, un, un, un, un, un, un, un, un, un, un, un, un, un] h) : AC Try.prog 5 [x0, x1] h R :=
  AC_of' (rs := [.tmp 4]) Try.func5 (by kernel_rfl) hd5 Try.ntmps5 rfl H

end Go.Proofs.Ytdcliofmdlhmaaa
