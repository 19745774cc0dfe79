/- The short forms of the functions' code, and facts on types. -/
import Derived.Test.YtdcliofmdlhmaaaProg
import Derived.Test.YtdcliofmdlhmaaaD8
namespace Go.Proofs.Ytdcliofmdlhmaaa
open Go.AL
set_option linter.unusedVariables false
theorem sz0 : szT Try.prog 0 = some 1 := by kernel_rfl
theorem by0 : byT Try.prog 0 = some 0 := by kernel_rfl
theorem ag0 : aggT Try.prog 0 = some false := by kernel_rfl
instance jsz0 : Tsz Try.prog 0 1 := ⟨sz0⟩
instance jby0 : Tby Try.prog 0 0 := ⟨by0⟩
instance jag0 : Tag Try.prog 0 false := ⟨ag0⟩
theorem sz1 : szT Try.prog 1 = some 1 := by kernel_rfl
theorem by1 : byT Try.prog 1 = some 8 := by kernel_rfl
theorem ag1 : aggT Try.prog 1 = some false := by kernel_rfl
instance jsz1 : Tsz Try.prog 1 1 := ⟨sz1⟩
instance jby1 : Tby Try.prog 1 8 := ⟨by1⟩
instance jag1 : Tag Try.prog 1 false := ⟨ag1⟩
theorem ze1 : zeroA Try.prog 1 = some .nf := by kernel_rfl
instance jze1 : Tze Try.prog 1 (.nf) := ⟨ze1⟩
theorem sz2 : szT Try.prog 2 = some 1 := by kernel_rfl
theorem by2 : byT Try.prog 2 = some 8 := by kernel_rfl
theorem ag2 : aggT Try.prog 2 = some false := by kernel_rfl
instance jsz2 : Tsz Try.prog 2 1 := ⟨sz2⟩
instance jby2 : Tby Try.prog 2 8 := ⟨by2⟩
instance jag2 : Tag Try.prog 2 false := ⟨ag2⟩
instance jik2 : Tik Try.prog 2 .i64 := ⟨Try.underlying2⟩
theorem ze2 : zeroA Try.prog 2 = some (.i .i64 0) := by kernel_rfl
instance jze2 : Tze Try.prog 2 (.i .i64 0) := ⟨ze2⟩
theorem sz3 : szT Try.prog 3 = some 1 := by kernel_rfl
theorem by3 : byT Try.prog 3 = some 8 := by kernel_rfl
theorem ag3 : aggT Try.prog 3 = some false := by kernel_rfl
instance jsz3 : Tsz Try.prog 3 1 := ⟨sz3⟩
instance jby3 : Tby Try.prog 3 8 := ⟨by3⟩
instance jag3 : Tag Try.prog 3 false := ⟨ag3⟩
instance jik3 : Tik Try.prog 3 .i64 := ⟨Try.underlying3⟩
theorem ze3 : zeroA Try.prog 3 = some (.i .i64 0) := by kernel_rfl
instance jze3 : Tze Try.prog 3 (.i .i64 0) := ⟨ze3⟩
theorem sz4 : szT Try.prog 4 = some 1 := by kernel_rfl
theorem by4 : byT Try.prog 4 = some 1 := by kernel_rfl
theorem ag4 : aggT Try.prog 4 = some false := by kernel_rfl
instance jsz4 : Tsz Try.prog 4 1 := ⟨sz4⟩
instance jby4 : Tby Try.prog 4 1 := ⟨by4⟩
instance jag4 : Tag Try.prog 4 false := ⟨ag4⟩
instance jbo4 : Tbo Try.prog 4 := ⟨Try.underlying4⟩
theorem ze4 : zeroA Try.prog 4 = some (.b false) := by kernel_rfl
instance jze4 : Tze Try.prog 4 (.b false) := ⟨ze4⟩
theorem sz6 : szT Try.prog 6 = some 1 := by kernel_rfl
theorem by6 : byT Try.prog 6 = some 1 := by kernel_rfl
theorem ag6 : aggT Try.prog 6 = some false := by kernel_rfl
instance jsz6 : Tsz Try.prog 6 1 := ⟨sz6⟩
instance jby6 : Tby Try.prog 6 1 := ⟨by6⟩
instance jag6 : Tag Try.prog 6 false := ⟨ag6⟩
instance jik6 : Tik Try.prog 6 .u8 := ⟨Try.underlying6⟩
theorem ze6 : zeroA Try.prog 6 = some (.i .u8 0) := by kernel_rfl
instance jze6 : Tze Try.prog 6 (.i .u8 0) := ⟨ze6⟩
theorem sz24 : szT Try.prog 24 = some 1 := by kernel_rfl
theorem by24 : byT Try.prog 24 = some 8 := by kernel_rfl
theorem ag24 : aggT Try.prog 24 = some false := by kernel_rfl
instance jsz24 : Tsz Try.prog 24 1 := ⟨sz24⟩
instance jby24 : Tby Try.prog 24 8 := ⟨by24⟩
instance jag24 : Tag Try.prog 24 false := ⟨ag24⟩
theorem ze24 : zeroA Try.prog 24 = some .nf := by kernel_rfl
instance jze24 : Tze Try.prog 24 (.nf) := ⟨ze24⟩
theorem sz28 : szT Try.prog 28 = some 1 := by kernel_rfl
theorem by28 : byT Try.prog 28 = some 24 := by kernel_rfl
theorem ag28 : aggT Try.prog 28 = some false := by kernel_rfl
instance jsz28 : Tsz Try.prog 28 1 := ⟨sz28⟩
instance jby28 : Tby Try.prog 28 24 := ⟨by28⟩
instance jag28 : Tag Try.prog 28 false := ⟨ag28⟩
instance jsl28 : Tsl Try.prog 28 108 := ⟨Try.underlying28⟩
theorem ze28 : zeroA Try.prog 28 = some .ns := by kernel_rfl
instance jze28 : Tze Try.prog 28 (.ns) := ⟨ze28⟩
theorem sz29 : szT Try.prog 29 = some 1 := by kernel_rfl
theorem by29 : byT Try.prog 29 = some 24 := by kernel_rfl
theorem ag29 : aggT Try.prog 29 = some false := by kernel_rfl
instance jsz29 : Tsz Try.prog 29 1 := ⟨sz29⟩
instance jby29 : Tby Try.prog 29 24 := ⟨by29⟩
instance jag29 : Tag Try.prog 29 false := ⟨ag29⟩
instance jsl29 : Tsl Try.prog 29 3 := ⟨Try.underlying29⟩
theorem ze29 : zeroA Try.prog 29 = some .ns := by kernel_rfl
instance jze29 : Tze Try.prog 29 (.ns) := ⟨ze29⟩
theorem sz31 : szT Try.prog 31 = some 3 := by kernel_rfl
theorem by31 : byT Try.prog 31 = some 56 := by kernel_rfl
theorem ag31 : aggT Try.prog 31 = some true := by kernel_rfl
instance jsz31 : Tsz Try.prog 31 3 := ⟨sz31⟩
instance jby31 : Tby Try.prog 31 56 := ⟨by31⟩
instance jag31 : Tag Try.prog 31 true := ⟨ag31⟩
theorem ze31 : zeroA Try.prog 31 = some (.agg [(.i .i64 0), .ns, .ns]) := by kernel_rfl
instance jze31 : Tze Try.prog 31 (.agg [(.i .i64 0), .ns, .ns]) := ⟨ze31⟩
theorem fl31_0 : fldA Try.prog 31 0 = some (0, 1, false) := by kernel_rfl
instance jfl31_0 : Tfl Try.prog 31 0 0 1 false := ⟨fl31_0⟩
theorem fl31_1 : fldA Try.prog 31 1 = some (1, 1, false) := by kernel_rfl
instance jfl31_1 : Tfl Try.prog 31 1 1 1 false := ⟨fl31_1⟩
theorem fl31_2 : fldA Try.prog 31 2 = some (2, 1, false) := by kernel_rfl
instance jfl31_2 : Tfl Try.prog 31 2 2 1 false := ⟨fl31_2⟩
theorem pa31 : plA Try.prog 31 = some [(0, 1), (1, 1), (2, 1)] := by kernel_rfl
instance jpl31 : Tpl Try.prog 31 [(0, 1), (1, 1), (2, 1)] := ⟨pa31⟩
theorem sz39 : szT Try.prog 39 = some 1 := by kernel_rfl
theorem by39 : byT Try.prog 39 = some 24 := by kernel_rfl
theorem ag39 : aggT Try.prog 39 = some false := by kernel_rfl
instance jsz39 : Tsz Try.prog 39 1 := ⟨sz39⟩
instance jby39 : Tby Try.prog 39 24 := ⟨by39⟩
instance jag39 : Tag Try.prog 39 false := ⟨ag39⟩
instance jsl39 : Tsl Try.prog 39 29 := ⟨Try.underlying39⟩
theorem ze39 : zeroA Try.prog 39 = some .ns := by kernel_rfl
instance jze39 : Tze Try.prog 39 (.ns) := ⟨ze39⟩
theorem sz54 : szT Try.prog 54 = some 1 := by kernel_rfl
theorem by54 : byT Try.prog 54 = some 8 := by kernel_rfl
theorem ag54 : aggT Try.prog 54 = some false := by kernel_rfl
instance jsz54 : Tsz Try.prog 54 1 := ⟨sz54⟩
instance jby54 : Tby Try.prog 54 8 := ⟨by54⟩
instance jag54 : Tag Try.prog 54 false := ⟨ag54⟩
theorem ze54 : zeroA Try.prog 54 = some .nf := by kernel_rfl
instance jze54 : Tze Try.prog 54 (.nf) := ⟨ze54⟩
theorem sz72 : szT Try.prog 72 = some 1 := by kernel_rfl
theorem by72 : byT Try.prog 72 = some 8 := by kernel_rfl
theorem ag72 : aggT Try.prog 72 = some false := by kernel_rfl
instance jsz72 : Tsz Try.prog 72 1 := ⟨sz72⟩
instance jby72 : Tby Try.prog 72 8 := ⟨by72⟩
instance jag72 : Tag Try.prog 72 false := ⟨ag72⟩
theorem ze72 : zeroA Try.prog 72 = some .np := by kernel_rfl
instance jze72 : Tze Try.prog 72 (.np) := ⟨ze72⟩
theorem sz87 : szT Try.prog 87 = some 1 := by kernel_rfl
theorem by87 : byT Try.prog 87 = some 8 := by kernel_rfl
theorem ag87 : aggT Try.prog 87 = some false := by kernel_rfl
instance jsz87 : Tsz Try.prog 87 1 := ⟨sz87⟩
instance jby87 : Tby Try.prog 87 8 := ⟨by87⟩
instance jag87 : Tag Try.prog 87 false := ⟨ag87⟩
theorem ze87 : zeroA Try.prog 87 = some .np := by kernel_rfl
instance jze87 : Tze Try.prog 87 (.np) := ⟨ze87⟩
theorem sz97 : szT Try.prog 97 = some 3 := by kernel_rfl
theorem by97 : byT Try.prog 97 = some 56 := by kernel_rfl
theorem ag97 : aggT Try.prog 97 = some true := by kernel_rfl
instance jsz97 : Tsz Try.prog 97 3 := ⟨sz97⟩
instance jby97 : Tby Try.prog 97 56 := ⟨by97⟩
instance jag97 : Tag Try.prog 97 true := ⟨ag97⟩
theorem ze97 : zeroA Try.prog 97 = some (.agg [(.i .i64 0), .ns, .ns]) := by kernel_rfl
instance jze97 : Tze Try.prog 97 (.agg [(.i .i64 0), .ns, .ns]) := ⟨ze97⟩
theorem fl97_0 : fldA Try.prog 97 0 = some (0, 3, true) := by kernel_rfl
instance jfl97_0 : Tfl Try.prog 97 0 0 3 true := ⟨fl97_0⟩
theorem pa97 : plA Try.prog 97 = some [(0, 3)] := by kernel_rfl
instance jpl97 : Tpl Try.prog 97 [(0, 3)] := ⟨pa97⟩
theorem sz108 : szT Try.prog 108 = some 2 := by kernel_rfl
theorem by108 : byT Try.prog 108 = some 16 := by kernel_rfl
theorem ag108 : aggT Try.prog 108 = some true := by kernel_rfl
instance jsz108 : Tsz Try.prog 108 2 := ⟨sz108⟩
instance jby108 : Tby Try.prog 108 16 := ⟨by108⟩
instance jag108 : Tag Try.prog 108 true := ⟨ag108⟩
theorem ze108 : zeroA Try.prog 108 = some (.agg [(.i .i64 0), (.i .i64 0)]) := by kernel_rfl
instance jze108 : Tze Try.prog 108 (.agg [(.i .i64 0), (.i .i64 0)]) := ⟨ze108⟩
theorem fl108_0 : fldA Try.prog 108 0 = some (0, 1, false) := by kernel_rfl
instance jfl108_0 : Tfl Try.prog 108 0 0 1 false := ⟨fl108_0⟩
theorem fl108_1 : fldA Try.prog 108 1 = some (1, 1, false) := by kernel_rfl
instance jfl108_1 : Tfl Try.prog 108 1 1 1 false := ⟨fl108_1⟩
theorem pa108 : plA Try.prog 108 = some [(0, 1), (1, 1)] := by kernel_rfl
instance jpl108 : Tpl Try.prog 108 [(0, 1), (1, 1)] := ⟨pa108⟩

/-- spec.l1In -/
def c100 : IC :=
  (.seq
  (.reg [
    ⟨some 6, .assign (.const (.bool false)), none⟩])
  (.seq
  (.reg [
    ⟨some 7, .move (.tmp 0), none⟩,
    ⟨some 8, .move (.tmp 1), none⟩,
    ⟨some 9, .binOp .geq 3 (.tmp 7) (.tmp 8) 3, none⟩,
    ⟨some 10, .move (.tmp 9), none⟩,
    ⟨some 11, .move (.tmp 0), some (10, true)⟩,
    ⟨some 12, .move (.tmp 2), some (10, true)⟩,
    ⟨some 13, .binOp .leq 3 (.tmp 11) (.tmp 12) 3, some (10, true)⟩,
    ⟨some 14, .pick (.tmp 10) (.tmp 13) (.const (.bool false)), none⟩,
    ⟨some 6, .assign (.tmp 14), none⟩])
  .ret))
theorem hd100 : Try.f100.body.map dec = some c100 := by kernel_rfl
theorem e100 {R : AV → AH → Prop} {h : AH} (x0 x1 x2 : AV) (H : h.wf → AI Try.prog c100 (RetQ Try.prog [.tmp 6] R) [x0, x1, x2, un, un, un, un, un, un, un, un, un, un, un, un] h) : AC Try.prog 100 [x0, x1, x2] h R :=
  AC_of' (rs := [.tmp 6]) Try.func100 (by kernel_rfl) hd100 Try.ntmps100 rfl H

/-- spec.chNumber -/
def c56 : IC :=
  (.seq
  (.reg [
    ⟨some 2, .assign (.const (.bool false)), none⟩])
  (.seq
  (.reg [
    ⟨some 3, .move (.tmp 0), none⟩,
    ⟨some 4, .call { callee := .value (.func 100), args := #[.tmp 3, .const (.int .i64 1), .const (.int .i64 1000000)], argTypes := #[3, 3, 3] }, none⟩,
    ⟨some 2, .assign (.tmp 4), none⟩])
  .ret))
theorem hd56 : Try.f56.body.map dec = some c56 := by kernel_rfl
theorem e56 {R : AV → AH → Prop} {h : AH} (x0 : AV) (H : h.wf → AI Try.prog c56 (RetQ Try.prog [.tmp 2] R) [x0, un, un, un, un] h) : AC Try.prog 56 [x0] h R :=
  AC_of' (rs := [.tmp 2]) Try.func56 (by kernel_rfl) hd56 Try.ntmps56 rfl H

/-- spec.l1Most -/
def c79 : IC :=
  (.seq
  (.reg [
    ⟨some 4, .assign (.const (.int .i64 0)), none⟩])
  (.seq
  (.seq
  (.reg [
    ⟨some 5, .move (.tmp 0), none⟩,
    ⟨some 6, .move (.tmp 1), none⟩,
    ⟨some 7, .binOp .gtr 3 (.tmp 5) (.tmp 6) 3, none⟩])
  (.cond (.tmp 7)
    (.seq
    (.reg [
      ⟨some 8, .move (.tmp 0), none⟩,
      ⟨some 4, .assign (.tmp 8), none⟩])
    .ret)
    .skip))
  (.seq
  (.reg [
    ⟨some 9, .move (.tmp 1), none⟩,
    ⟨some 4, .assign (.tmp 9), none⟩])
  .ret)))
theorem hd79 : Try.f79.body.map dec = some c79 := by kernel_rfl
theorem e79 {R : AV → AH → Prop} {h : AH} (x0 x1 : AV) (H : h.wf → AI Try.prog c79 (RetQ Try.prog [.tmp 4] R) [x0, x1, un, un, un, un, un, un, un, un] h) : AC Try.prog 79 [x0, x1] h R :=
  AC_of' (rs := [.tmp 4]) Try.func79 (by kernel_rfl) hd79 Try.ntmps79 rfl H

/-- spec.l1Least -/
def c80 : IC :=
  (.seq
  (.reg [
    ⟨some 4, .assign (.const (.int .i64 0)), none⟩])
  (.seq
  (.seq
  (.reg [
    ⟨some 5, .move (.tmp 0), none⟩,
    ⟨some 6, .move (.tmp 1), none⟩,
    ⟨some 7, .binOp .lss 3 (.tmp 5) (.tmp 6) 3, none⟩])
  (.cond (.tmp 7)
    (.seq
    (.reg [
      ⟨some 8, .move (.tmp 0), none⟩,
      ⟨some 4, .assign (.tmp 8), none⟩])
    .ret)
    .skip))
  (.seq
  (.reg [
    ⟨some 9, .move (.tmp 1), none⟩,
    ⟨some 4, .assign (.tmp 9), none⟩])
  .ret)))
theorem hd80 : Try.f80.body.map dec = some c80 := by kernel_rfl
theorem e80 {R : AV → AH → Prop} {h : AH} (x0 x1 : AV) (H : h.wf → AI Try.prog c80 (RetQ Try.prog [.tmp 4] R) [x0, x1, un, un, un, un, un, un, un, un] h) : AC Try.prog 80 [x0, x1] h R :=
  AC_of' (rs := [.tmp 4]) Try.func80 (by kernel_rfl) hd80 Try.ntmps80 rfl H

/-- spec.plStep -/
def c111 : IC :=
  (.seq
  (.reg [
    ⟨some 4, .alloc 108, none⟩])
  (.seq
  (.reg [
    ⟨some 5, .move (.tmp 0), none⟩,
    ⟨some 6, .move (.tmp 1), none⟩,
    ⟨some 7, .call { callee := .value (.func 80), args := #[.tmp 5, .tmp 6], argTypes := #[3, 3] }, none⟩,
    ⟨some 8, .move (.tmp 0), none⟩,
    ⟨some 9, .move (.tmp 1), none⟩,
    ⟨some 10, .call { callee := .value (.func 79), args := #[.tmp 8, .tmp 9], argTypes := #[3, 3] }, none⟩,
    ⟨some 11, .build 108 #[(0, .tmp 7), (1, .tmp 10)], none⟩,
    ⟨none, .store 108 (.tmp 4) (.tmp 11), none⟩])
  .ret))
theorem hd111 : Try.f111.body.map dec = some c111 := by kernel_rfl
theorem e111 {R : AV → AH → Prop} {h : AH} (x0 x1 : AV) (H : h.wf → AI Try.prog c111 (RetQ Try.prog [.cell 4 108] R) [x0, x1, un, un, un, un, un, un, un, un, un, un] h) : AC Try.prog 111 [x0, x1] h R :=
  AC_of' (rs := [.cell 4 108]) Try.func111 (by kernel_rfl) hd111 Try.ntmps111 rfl H

noncomputable def rg94_0 : Array Oper := rawAt Try.f94 0
-- NO ORDER
noncomputable def rg94_1 : Array Oper := rawAt Try.f94 1
/-- spec.meTimes -/
noncomputable def c94 : IC :=
  (.seq
  (.reg [
    ⟨some 3, .box 31 (.tmp 0), none⟩,
    ⟨some 6, .alloc 31, none⟩,
    ⟨some 7, .assign (.const (.int .i64 0)), none⟩])
  (.seq
  (.raw (.region 1 rg94_0 true))
  (.seq
  (.raw (.region 2 rg94_1 true))
  .ret)))
theorem hd94 : Try.f94.body.map dec = some c94 := by kernel_rfl
theorem e94 {R : AV → AH → Prop} {h : AH} (x0 x1 x2 : AV) (H : h.wf → AI Try.prog c94 (RetQ Try.prog [.cell 6 31, .tmp 7] R) [x0, x1, x2, un, un, un, un, un, un, un, un, un, un, un, un, un, un, un, un, un, un, un, un, un, un, un, un, un] h) : AC Try.prog 94 [x0, x1, x2] h R :=
  AC_of' (rs := [.cell 6 31, .tmp 7]) Try.func94 (by kernel_rfl) hd94 Try.ntmps94 rfl H
theorem dk94_0 {h0 : AH} {L : List It} {Q : Exit → List AV → List It → Prop} {a : List AV} {id : Nat} (K : List (Nat × List AV)) (hK : ∀ x ∈ K, It.pt x.1 x.2 ∈ L) (H : LX Try.prog ⟨[5, 10, 13], K⟩ h0 L L (.c (⟨some 9, .fieldAddr 31 (.tmp 3) 0, none⟩, .p) <| .c (⟨some 10, .load 3 (.tmp 9), none⟩, .kp) <| .c (⟨some 12, .fieldAddr 31 (.tmp 3) 1, none⟩, .p) <| .c (⟨some 13, .load 28 (.tmp 12), none⟩, .l) <| .c (⟨some 15, .move (.tmp 1), none⟩, .p) <| .c (⟨some 16, .move (.tmp 2), none⟩, .p) <| .t (.c (⟨some 11, .buildSlice 28 0 #[], none⟩, .e) <| .t (.c (⟨some 14, .call { callee := .builtin .append, args := #[.tmp 11, .tmp 13], argTypes := #[28, 28] }, none⟩, .f) <| .t (.c (⟨some 17, .call { callee := .value (.func 111), args := #[.tmp 15, .tmp 16], argTypes := #[3, 3] }, none⟩, .e) <| .t (.c (⟨some 18, .buildSlice 28 1 #[(0, .tmp 17)], none⟩, .e) <| .t (.c (⟨some 19, .call { callee := .builtin .append, args := #[.tmp 14, .tmp 18], argTypes := #[28, 28] }, none⟩, .f) <| .c (⟨some 20, .build 31 #[(0, .tmp 10), (1, .tmp 19)], none⟩, .p) <| .c (⟨some 8, .alloc 31, none⟩, .e) <| .c (⟨none, .store 31 (.tmp 8) (.tmp 20), none⟩, .f) <| .n) (.c (⟨some 8, .alloc 31, none⟩, .e) <| .c (⟨some 19, .call { callee := .builtin .append, args := #[.tmp 14, .tmp 18], argTypes := #[28, 28] }, none⟩, .f) <| .c (⟨some 20, .build 31 #[(0, .tmp 10), (1, .tmp 19)], none⟩, .p) <| .c (⟨none, .store 31 (.tmp 8) (.tmp 20), none⟩, .f) <| .n)) (.c (⟨some 8, .alloc 31, none⟩, .e) <| .c (⟨some 18, .buildSlice 28 1 #[(0, .tmp 17)], none⟩, .e) <| .c (⟨some 19, .call { callee := .builtin .append, args := #[.tmp 14, .tmp 18], argTypes := #[28, 28] }, none⟩, .f) <| .c (⟨some 20, .build 31 #[(0, .tmp 10), (1, .tmp 19)], none⟩, .p) <| .c (⟨none, .store 31 (.tmp 8) (.tmp 20), none⟩, .f) <| .n)) (.c (⟨some 8, .alloc 31, none⟩, .e) <| .c (⟨some 17, .call { callee := .value (.func 111), args := #[.tmp 15, .tmp 16], argTypes := #[3, 3] }, none⟩, .e) <| .c (⟨some 18, .buildSlice 28 1 #[(0, .tmp 17)], none⟩, .e) <| .c (⟨some 19, .call { callee := .builtin .append, args := #[.tmp 14, .tmp 18], argTypes := #[28, 28] }, none⟩, .f) <| .c (⟨some 20, .build 31 #[(0, .tmp 10), (1, .tmp 19)], none⟩, .p) <| .c (⟨none, .store 31 (.tmp 8) (.tmp 20), none⟩, .f) <| .n)) (.c (⟨some 8, .alloc 31, none⟩, .e) <| .c (⟨some 14, .call { callee := .builtin .append, args := #[.tmp 11, .tmp 13], argTypes := #[28, 28] }, none⟩, .f) <| .c (⟨some 17, .call { callee := .value (.func 111), args := #[.tmp 15, .tmp 16], argTypes := #[3, 3] }, none⟩, .e) <| .c (⟨some 18, .buildSlice 28 1 #[(0, .tmp 17)], none⟩, .e) <| .c (⟨some 19, .call { callee := .builtin .append, args := #[.tmp 14, .tmp 18], argTypes := #[28, 28] }, none⟩, .f) <| .c (⟨some 20, .build 31 #[(0, .tmp 10), (1, .tmp 19)], none⟩, .p) <| .c (⟨none, .store 31 (.tmp 8) (.tmp 20), none⟩, .f) <| .n)) (.c (⟨some 8, .alloc 31, none⟩, .e) <| .c (⟨some 11, .buildSlice 28 0 #[], none⟩, .e) <| .c (⟨some 14, .call { callee := .builtin .append, args := #[.tmp 11, .tmp 13], argTypes := #[28, 28] }, none⟩, .f) <| .c (⟨some 17, .call { callee := .value (.func 111), args := #[.tmp 15, .tmp 16], argTypes := #[3, 3] }, none⟩, .e) <| .c (⟨some 18, .buildSlice 28 1 #[(0, .tmp 17)], none⟩, .e) <| .c (⟨some 19, .call { callee := .builtin .append, args := #[.tmp 14, .tmp 18], argTypes := #[28, 28] }, none⟩, .f) <| .c (⟨some 20, .build 31 #[(0, .tmp 10), (1, .tmp 19)], none⟩, .p) <| .c (⟨none, .store 31 (.tmp 8) (.tmp 20), none⟩, .f) <| .n)) Q a) : LI Try.prog h0 L (.raw (.region id rg94_0 true)) Q a :=
  LI_drawK (.c (0, .p) <| .c (1, .kp) <| .c (3, .p) <| .c (4, .l) <| .c (6, .p) <| .c (7, .p) <| .t (.c (2, .e) <| .t (.c (5, .f) <| .t (.c (8, .e) <| .t (.c (9, .e) <| .t (.c (10, .f) <| .c (11, .p) <| .c (12, .e) <| .c (13, .f) <| .n) (.c (12, .e) <| .c (10, .f) <| .c (11, .p) <| .c (13, .f) <| .n)) (.c (12, .e) <| .c (9, .e) <| .c (10, .f) <| .c (11, .p) <| .c (13, .f) <| .n)) (.c (12, .e) <| .c (8, .e) <| .c (9, .e) <| .c (10, .f) <| .c (11, .p) <| .c (13, .f) <| .n)) (.c (12, .e) <| .c (5, .f) <| .c (8, .e) <| .c (9, .e) <| .c (10, .f) <| .c (11, .p) <| .c (13, .f) <| .n)) (.c (12, .e) <| .c (2, .e) <| .c (5, .f) <| .c (8, .e) <| .c (9, .e) <| .c (10, .f) <| .c (11, .p) <| .c (13, .f) <| .n)) [5, 10, 13] K hK (by kernel_rfl) (by kernel_rfl) (by kernel_rfl) H
theorem dk94_1 {h0 : AH} {L : List It} {Q : Exit → List AV → List It → Prop} {a : List AV} {id : Nat} (K : List (Nat × List AV)) (hK : ∀ x ∈ K, It.pt x.1 x.2 ∈ L) (H : LX Try.prog ⟨[7], K⟩ h0 L L (.c (⟨some 21, .load 31 (.tmp 8), none⟩, .l) <| .c (⟨some 22, .fieldAddr 31 (.tmp 3) 0, none⟩, .p) <| .c (⟨some 23, .load 3 (.tmp 22), none⟩, .kp) <| .c (⟨some 24, .fieldAddr 31 (.tmp 3) 1, none⟩, .p) <| .t (.c (⟨some 25, .load 28 (.tmp 24), none⟩, .e) <| .c (⟨some 26, .call { callee := .builtin .len, args := #[.tmp 25], argTypes := #[28] }, none⟩, .p) <| .c (⟨some 27, .binOp .add 3 (.tmp 23) (.tmp 26) 3, none⟩, .p) <| .c (⟨none, .store 31 (.tmp 6) (.tmp 21), none⟩, .f) <| .c (⟨some 7, .assign (.tmp 27), none⟩, .p) <| .n) (.c (⟨none, .store 31 (.tmp 6) (.tmp 21), none⟩, .f) <| .c (⟨some 25, .load 28 (.tmp 24), none⟩, .e) <| .c (⟨some 26, .call { callee := .builtin .len, args := #[.tmp 25], argTypes := #[28] }, none⟩, .p) <| .c (⟨some 27, .binOp .add 3 (.tmp 23) (.tmp 26) 3, none⟩, .p) <| .c (⟨some 7, .assign (.tmp 27), none⟩, .p) <| .n)) Q a) : LI Try.prog h0 L (.raw (.region id rg94_1 true)) Q a :=
  LI_drawK (.c (0, .l) <| .c (1, .p) <| .c (2, .kp) <| .c (3, .p) <| .t (.c (4, .e) <| .c (5, .p) <| .c (6, .p) <| .c (7, .f) <| .c (8, .p) <| .n) (.c (7, .f) <| .c (4, .e) <| .c (5, .p) <| .c (6, .p) <| .c (8, .p) <| .n)) [7] K hK (by kernel_rfl) (by kernel_rfl) (by kernel_rfl) H
theorem dr94_1 (m : Nat) {Q : Exit → List AV → AH → Prop} {a : List AV} {h : AH} {id : Nat} (H : AX Try.prog m h [(⟨some 21, .load 31 (.tmp 8), none⟩, true),
  (⟨some 22, .fieldAddr 31 (.tmp 3) 0, none⟩, true),
  (⟨some 23, .load 3 (.tmp 22), none⟩, true),
  (⟨some 24, .fieldAddr 31 (.tmp 3) 1, none⟩, true),
  (⟨some 25, .load 28 (.tmp 24), none⟩, true),
  (⟨some 26, .call { callee := .builtin .len, args := #[.tmp 25], argTypes := #[28] }, none⟩, true),
  (⟨some 27, .binOp .add 3 (.tmp 23) (.tmp 26) 3, none⟩, true),
  (⟨none, .store 31 (.tmp 6) (.tmp 21), none⟩, false),
  (⟨some 7, .assign (.tmp 27), none⟩, true)] (fun a' h' => Q .normal a' h') a h) : AI Try.prog (.raw (.region id rg94_1 true)) Q a h :=
  AI_draw [(0, true), (1, true), (2, true), (3, true), (4, true), (5, true), (6, true), (7, false), (8, true)] m (by kernel_rfl) (by kernel_rfl) (by kernel_rfl) H

/-- spec.meEnd -/
def c95 : IC :=
  (.seq
  (.reg [
    ⟨some 2, .box 31 (.tmp 0), none⟩,
    ⟨some 4, .alloc 31, none⟩])
  (.seq
  (.reg [
    ⟨some 5, .fieldAddr 31 (.tmp 2) 0, none⟩,
    ⟨some 6, .load 3 (.tmp 5), none⟩,
    ⟨some 7, .fieldAddr 31 (.tmp 2) 1, none⟩,
    ⟨some 8, .load 28 (.tmp 7), none⟩,
    ⟨some 9, .move (.tmp 1), none⟩,
    ⟨some 10, .buildSlice 29 1 #[(0, .tmp 9)], none⟩,
    ⟨some 11, .build 31 #[(0, .tmp 6), (1, .tmp 8), (2, .tmp 10)], none⟩,
    ⟨none, .store 31 (.tmp 4) (.tmp 11), none⟩])
  .ret))
theorem hd95 : Try.f95.body.map dec = some c95 := by kernel_rfl
theorem e95 {R : AV → AH → Prop} {h : AH} (x0 x1 : AV) (H : h.wf → AI Try.prog c95 (RetQ Try.prog [.cell 4 31] R) [x0, x1, un, un, un, un, un, un, un, un, un, un] h) : AC Try.prog 95 [x0, x1] h R :=
  AC_of' (rs := [.cell 4 31]) Try.func95 (by kernel_rfl) hd95 Try.ntmps95 rfl H

/-- spec.meDigits -/
def c124 : IC :=
  (.seq
  (.reg [
    ⟨some 4, .assign (.const (.slice none 0 0)), none⟩])
  (.seq
  (.reg [
    ⟨some 5, .assign (.const (.slice none 0 0)), none⟩])
  (.seq
  (.block 0
  (.loop
    (.seq
    (.seq
    (.reg [
      ⟨some 6, .move (.tmp 0), none⟩,
      ⟨some 7, .binOp .gtr 3 (.tmp 6) (.const (.int .i64 0)) 3, none⟩])
    (.cond (.tmp 7)
      .skip
      (.exit 0)))
    (.seq
    (.block 1
    (.reg [
      ⟨some 11, .move (.tmp 5), none⟩,
      ⟨some 12, .move (.tmp 0), none⟩,
      ⟨some 13, .move (.tmp 1), none⟩,
      ⟨some 14, .binOp .rem 3 (.tmp 12) (.tmp 13) 3, none⟩,
      ⟨some 15, .buildSlice 29 1 #[(0, .tmp 14)], none⟩,
      ⟨some 16, .call { callee := .builtin .append, args := #[.tmp 11, .tmp 15], argTypes := #[29, 29] }, none⟩,
      ⟨some 5, .assign (.tmp 16), none⟩]))
    (.reg [
      ⟨some 8, .move (.tmp 0), none⟩,
      ⟨some 9, .move (.tmp 1), none⟩,
      ⟨some 10, .binOp .quo 3 (.tmp 8) (.tmp 9) 3, none⟩,
      ⟨some 0, .assign (.tmp 10), none⟩])))))
  (.seq
  (.reg [
    ⟨some 17, .move (.tmp 5), none⟩,
    ⟨some 4, .assign (.tmp 17), none⟩])
  .ret))))
theorem hd124 : Try.f124.body.map dec = some c124 := by kernel_rfl
theorem e124 {R : AV → AH → Prop} {h : AH} (x0 x1 : AV) (H : h.wf → AI Try.prog c124 (RetQ Try.prog [.tmp 4] R) [x0, x1, un, un, un, un, un, un, un, un, un, un, un, un, un, un, un, un] h) : AC Try.prog 124 [x0, x1] h R :=
  AC_of' (rs := [.tmp 4]) Try.func124 (by kernel_rfl) hd124 Try.ntmps124 rfl H

/-- spec.meBinary -/
def c57 : IC :=
  (.seq
  (.reg [
    ⟨some 2, .alloc 31, none⟩])
  (.seq
  (.reg [
    ⟨some 7, .move (.tmp 0), none⟩,
    ⟨some 8, .call { callee := .value (.func 124), args := #[.tmp 7, .const (.int .i64 2)], argTypes := #[3, 3] }, none⟩,
    ⟨some 3, .assign (.tmp 8), none⟩])
  (.seq
  (.reg [
    ⟨some 9, .build 31 #[(0, .const (.int .i64 1))], none⟩,
    ⟨some 4, .alloc 31, none⟩,
    ⟨none, .store 31 (.tmp 4) (.tmp 9), none⟩])
  (.seq
  (.reg [
    ⟨some 5, .assign (.const (.int .i64 0)), none⟩])
  (.seq
  (.seq
  (.reg [
    ⟨some 10, .move (.tmp 3), none⟩,
    ⟨some 11, .call { callee := .builtin .len, args := #[.tmp 10], argTypes := #[29] }, none⟩,
    ⟨some 12, .binOp .sub 3 (.tmp 11) (.const (.int .i64 2)) 3, none⟩,
    ⟨some 6, .assign (.tmp 12), none⟩])
  (.block 0
  (.loop
    (.seq
    (.seq
    (.reg [
      ⟨some 13, .move (.tmp 6), none⟩,
      ⟨some 14, .binOp .geq 3 (.tmp 13) (.const (.int .i64 0)) 3, none⟩])
    (.cond (.tmp 14)
      .skip
      (.exit 0)))
    (.seq
    (.block 1
    (.seq
    (.reg [
      ⟨some 18, .load 31 (.tmp 4), none⟩,
      ⟨some 19, .move (.tmp 5), none⟩,
      ⟨some 20, .move (.tmp 5), none⟩,
      ⟨some 21, .call { callee := .value (.func 94), args := #[.tmp 18, .tmp 19, .tmp 20], argTypes := #[31, 3, 3] }, none⟩,
      ⟨some 17, .move (.tmp 21), none⟩,
      ⟨some 22, .extract (.tmp 17) 0, none⟩,
      ⟨some 23, .extract (.tmp 17) 1, none⟩,
      ⟨none, .store 31 (.tmp 4) (.tmp 22), none⟩,
      ⟨some 5, .assign (.tmp 23), none⟩])
    (.seq
    (.reg [
      ⟨some 24, .move (.tmp 3), none⟩,
      ⟨some 25, .move (.tmp 6), none⟩,
      ⟨some 26, .indexAddr 29 (.tmp 24) (.tmp 25), none⟩,
      ⟨some 27, .load 3 (.tmp 26), none⟩,
      ⟨some 28, .binOp .eql 3 (.tmp 27) (.const (.int .i64 1)) 3, none⟩])
    (.cond (.tmp 28)
      (.reg [
        ⟨some 30, .load 31 (.tmp 4), none⟩,
        ⟨some 31, .move (.tmp 5), none⟩,
        ⟨some 32, .call { callee := .value (.func 94), args := #[.tmp 30, .tmp 31, .const (.int .i64 0)], argTypes := #[31, 3, 3] }, none⟩,
        ⟨some 29, .move (.tmp 32), none⟩,
        ⟨some 33, .extract (.tmp 29) 0, none⟩,
        ⟨some 34, .extract (.tmp 29) 1, none⟩,
        ⟨none, .store 31 (.tmp 4) (.tmp 33), none⟩,
        ⟨some 5, .assign (.tmp 34), none⟩])
      .skip))))
    (.reg [
      ⟨some 15, .move (.tmp 6), none⟩,
      ⟨some 16, .binOp .sub 3 (.tmp 15) (.const (.int .i64 1)) 3, none⟩,
      ⟨some 6, .assign (.tmp 16), none⟩]))))))
  (.seq
  (.reg [
    ⟨some 35, .load 31 (.tmp 4), none⟩,
    ⟨some 36, .move (.tmp 5), none⟩,
    ⟨some 37, .call { callee := .value (.func 95), args := #[.tmp 35, .tmp 36], argTypes := #[31, 3] }, none⟩,
    ⟨none, .store 31 (.tmp 2) (.tmp 37), none⟩])
  .ret))))))
theorem hd57 : Try.f57.body.map dec = some c57 := by kernel_rfl
theorem e57 {R : AV → AH → Prop} {h : AH} (x0 : AV) (H : h.wf → AI Try.prog c57 (RetQ Try.prog [.cell 2 31] R) [x0, un, un, un, un, un, un, un, un, un, un, un, un, un, un, un, un, un, un, un, un, un, un, un, un, un, un, un, un, un, un, un, un, un, un, un, un, un] h) : AC Try.prog 57 [x0] h R :=
  AC_of' (rs := [.cell 2 31]) Try.func57 (by kernel_rfl) hd57 Try.ntmps57 rfl H

/-- spec.BinaryCost -/
def c15 : IC :=
  (.seq
  (.reg [
    ⟨some 2, .assign (.const (.int .i64 0)), none⟩,
    ⟨some 3, .assign (.const (.bool false)), none⟩])
  (.seq
  (.seq
  (.reg [
    ⟨some 4, .move (.tmp 0), none⟩,
    ⟨some 5, .call { callee := .value (.func 56), args := #[.tmp 4], argTypes := #[3] }, none⟩,
    ⟨some 6, .unOp .not 4 (.tmp 5), none⟩])
  (.cond (.tmp 6)
    (.seq
    (.reg [
      ⟨some 2, .assign (.const (.int .i64 0)), none⟩,
      ⟨some 3, .assign (.const (.bool false)), none⟩])
    .ret)
    .skip))
  (.seq
  (.reg [
    ⟨some 7, .move (.tmp 0), none⟩,
    ⟨some 8, .call { callee := .value (.func 57), args := #[.tmp 7], argTypes := #[3] }, none⟩,
    ⟨some 9, .field 31 (.tmp 8) 1, none⟩,
    ⟨some 10, .call { callee := .builtin .len, args := #[.tmp 9], argTypes := #[28] }, none⟩,
    ⟨some 2, .assign (.tmp 10), none⟩,
    ⟨some 3, .assign (.const (.bool true)), none⟩])
  .ret)))
theorem hd15 : Try.f15.body.map dec = some c15 := by kernel_rfl
theorem e15 {R : AV → AH → Prop} {h : AH} (x0 : AV) (H : h.wf → AI Try.prog c15 (RetQ Try.prog [.tmp 2, .tmp 3] R) [x0, un, un, un, un, un, un, un, un, un, un] h) : AC Try.prog 15 [x0] h R :=
  AC_of' (rs := [.tmp 2, .tmp 3]) Try.func15 (by kernel_rfl) hd15 Try.ntmps15 rfl H

/-- impl.in -/
def c104 : IC :=
  (.seq
  (.reg [
    ⟨some 6, .assign (.const (.bool false)), none⟩])
  (.seq
  (.reg [
    ⟨some 7, .move (.tmp 0), none⟩,
    ⟨some 8, .move (.tmp 1), none⟩,
    ⟨some 9, .binOp .geq 3 (.tmp 7) (.tmp 8) 3, none⟩,
    ⟨some 10, .move (.tmp 9), none⟩,
    ⟨some 11, .move (.tmp 0), some (10, true)⟩,
    ⟨some 12, .move (.tmp 2), some (10, true)⟩,
    ⟨some 13, .binOp .leq 3 (.tmp 11) (.tmp 12) 3, some (10, true)⟩,
    ⟨some 14, .pick (.tmp 10) (.tmp 13) (.const (.bool false)), none⟩,
    ⟨some 6, .assign (.tmp 14), none⟩])
  .ret))
theorem hd104 : Try.f104.body.map dec = some c104 := by kernel_rfl
theorem e104 {R : AV → AH → Prop} {h : AH} (x0 x1 x2 : AV) (H : h.wf → AI Try.prog c104 (RetQ Try.prog [.tmp 6] R) [x0, x1, x2, un, un, un, un, un, un, un, un, un, un, un, un] h) : AC Try.prog 104 [x0, x1, x2] h R :=
  AC_of' (rs := [.tmp 6]) Try.func104 (by kernel_rfl) hd104 Try.ntmps104 rfl H

/-- impl.isNumber -/
def c61 : IC :=
  (.seq
  (.reg [
    ⟨some 2, .assign (.const (.bool false)), none⟩])
  (.seq
  (.reg [
    ⟨some 3, .move (.tmp 0), none⟩,
    ⟨some 4, .call { callee := .value (.func 104), args := #[.tmp 3, .const (.int .i64 1), .const (.int .i64 1000000)], argTypes := #[3, 3, 3] }, none⟩,
    ⟨some 2, .assign (.tmp 4), none⟩])
  .ret))
theorem hd61 : Try.f61.body.map dec = some c61 := by kernel_rfl
theorem e61 {R : AV → AH → Prop} {h : AH} (x0 : AV) (H : h.wf → AI Try.prog c61 (RetQ Try.prog [.tmp 2] R) [x0, un, un, un, un] h) : AC Try.prog 61 [x0] h R :=
  AC_of' (rs := [.tmp 2]) Try.func61 (by kernel_rfl) hd61 Try.ntmps61 rfl H

/-- impl.newMaker -/
def c64 : IC :=
  (.seq
  (.reg [
    ⟨some 2, .assign (.const (.pointer none)), none⟩])
  (.seq
  (.reg [
    ⟨some 3, .move (.tmp 0), none⟩,
    ⟨some 4, .build 31 #[(0, .tmp 3)], none⟩,
    ⟨some 5, .build 97 #[(0, .tmp 4)], none⟩,
    ⟨some 6, .box 97 (.tmp 5), none⟩,
    ⟨some 2, .assign (.tmp 6), none⟩])
  .ret))
theorem hd64 : Try.f64.body.map dec = some c64 := by kernel_rfl
theorem e64 {R : AV → AH → Prop} {h : AH} (x0 : AV) (H : h.wf → AI Try.prog c64 (RetQ Try.prog [.tmp 2] R) [x0, un, un, un, un, un, un] h) : AC Try.prog 64 [x0] h R :=
  AC_of' (rs := [.tmp 2]) Try.func64 (by kernel_rfl) hd64 Try.ntmps64 rfl H

/-- impl.digits -/
def c65 : IC :=
  (.seq
  (.reg [
    ⟨some 4, .assign (.const (.slice none 0 0)), none⟩])
  (.seq
  (.reg [
    ⟨some 6, .buildSlice 29 0 #[], none⟩,
    ⟨some 5, .assign (.tmp 6), none⟩])
  (.seq
  (.block 0
  (.loop
    (.seq
    (.seq
    (.reg [
      ⟨some 7, .move (.tmp 0), none⟩,
      ⟨some 8, .binOp .gtr 3 (.tmp 7) (.const (.int .i64 0)) 3, none⟩])
    (.cond (.tmp 8)
      .skip
      (.exit 0)))
    (.seq
    (.block 1
    (.reg [
      ⟨some 12, .move (.tmp 5), none⟩,
      ⟨some 13, .move (.tmp 0), none⟩,
      ⟨some 14, .move (.tmp 1), none⟩,
      ⟨some 15, .binOp .rem 3 (.tmp 13) (.tmp 14) 3, none⟩,
      ⟨some 16, .buildSlice 29 1 #[(0, .tmp 15)], none⟩,
      ⟨some 17, .call { callee := .builtin .append, args := #[.tmp 12, .tmp 16], argTypes := #[29, 29] }, none⟩,
      ⟨some 5, .assign (.tmp 17), none⟩]))
    (.reg [
      ⟨some 9, .move (.tmp 0), none⟩,
      ⟨some 10, .move (.tmp 1), none⟩,
      ⟨some 11, .binOp .quo 3 (.tmp 9) (.tmp 10) 3, none⟩,
      ⟨some 0, .assign (.tmp 11), none⟩])))))
  (.seq
  (.reg [
    ⟨some 18, .move (.tmp 5), none⟩,
    ⟨some 4, .assign (.tmp 18), none⟩])
  .ret))))
theorem hd65 : Try.f65.body.map dec = some c65 := by kernel_rfl
theorem e65 {R : AV → AH → Prop} {h : AH} (x0 x1 : AV) (H : h.wf → AI Try.prog c65 (RetQ Try.prog [.tmp 4] R) [x0, x1, un, un, un, un, un, un, un, un, un, un, un, un, un, un, un, un, un] h) : AC Try.prog 65 [x0, x1] h R :=
  AC_of' (rs := [.tmp 4]) Try.func65 (by kernel_rfl) hd65 Try.ntmps65 rfl H

/-- slices.Backward[[]int,int]$1 -/
def c127 : IC :=
  (.seq
  (.reg [
    ⟨some 4, .load 29 (.tmp 1), none⟩,
    ⟨some 5, .call { callee := .builtin .len, args := #[.tmp 4], argTypes := #[29] }, none⟩,
    ⟨some 6, .binOp .sub 3 (.tmp 5) (.const (.int .i64 1)) 3, none⟩,
    ⟨some 3, .assign (.tmp 6), none⟩])
  (.block 0
  (.loop
    (.seq
    (.seq
    (.reg [
      ⟨some 7, .move (.tmp 3), none⟩,
      ⟨some 8, .binOp .geq 3 (.tmp 7) (.const (.int .i64 0)) 3, none⟩])
    (.cond (.tmp 8)
      .skip
      (.exit 0)))
    (.seq
    (.block 1
    (.seq
    (.reg [
      ⟨some 11, .move (.tmp 0), none⟩,
      ⟨some 12, .move (.tmp 3), none⟩,
      ⟨some 13, .load 29 (.tmp 1), none⟩,
      ⟨some 14, .move (.tmp 3), none⟩,
      ⟨some 15, .indexAddr 29 (.tmp 13) (.tmp 14), none⟩,
      ⟨some 16, .load 3 (.tmp 15), none⟩,
      ⟨some 17, .call { callee := .value (.tmp 11), args := #[.tmp 12, .tmp 16], argTypes := #[3, 3] }, none⟩,
      ⟨some 18, .unOp .not 4 (.tmp 17), none⟩])
    (.cond (.tmp 18)
      .ret
      .skip)))
    (.reg [
      ⟨some 9, .move (.tmp 3), none⟩,
      ⟨some 10, .binOp .sub 3 (.tmp 9) (.const (.int .i64 1)) 3, none⟩,
      ⟨some 3, .assign (.tmp 10), none⟩]))))))
theorem hd127 : Try.f127.body.map dec = some c127 := by kernel_rfl
theorem e127 {R : AV → AH → Prop} {h : AH} (x0 x1 : AV) (H : h.wf → AI Try.prog c127 (RetQ Try.prog [] R) [x0, x1, un, un, un, un, un, un, un, un, un, un, un, un, un, un, un, un, un] h) : AC Try.prog 127 [x0, x1] h R :=
  AC_of' (rs := []) Try.func127 (by kernel_rfl) hd127 Try.ntmps127 rfl H

/-- slices.Backward[[]int,int] -/
def c66 : IC :=
  (.seq
  (.reg [
    ⟨some 1, .box 29 (.tmp 0), none⟩,
    ⟨some 2, .assign (.const .nilFunc), none⟩])
  (.seq
  (.reg [
    ⟨some 3, .makeFunc (.func 127) #[] #[.tmp 1], none⟩,
    ⟨some 2, .assign (.tmp 3), none⟩])
  .ret))
theorem hd66 : Try.f66.body.map dec = some c66 := by kernel_rfl
theorem e66 {R : AV → AH → Prop} {h : AH} (x0 : AV) (H : h.wf → AI Try.prog c66 (RetQ Try.prog [.tmp 2] R) [x0, un, un, un] h) : AC Try.prog 66 [x0] h R :=
  AC_of' (rs := [.tmp 2]) Try.func66 (by kernel_rfl) hd66 Try.ntmps66 rfl H

noncomputable def rg115_0 : Array Oper := rawAt Try.f115 0
/-- (*impl.Plan).many -/
noncomputable def c115 : IC :=
  (.seq
  (.reg [
    ⟨some 2, .assign (.const (.int .i64 0)), none⟩])
  (.seq
  (.raw (.region 1 rg115_0 true))
  .ret))
theorem hd115 : Try.f115.body.map dec = some c115 := by kernel_rfl
theorem e115 {R : AV → AH → Prop} {h : AH} (x0 : AV) (H : h.wf → AI Try.prog c115 (RetQ Try.prog [.tmp 2] R) [x0, un, un, un, un, un, un, un, un, un, un, un, un] h) : AC Try.prog 115 [x0] h R :=
  AC_of' (rs := [.tmp 2]) Try.func115 (by kernel_rfl) hd115 Try.ntmps115 rfl H
theorem dz115_0 {h0 : AH} {L : List It} {Q : Exit → List AV → List It → Prop} {a : List AV} {id : Nat} (H : LX Try.prog ⟨[], []⟩ h0 L L (.c (⟨some 3, .move (.tmp 0), none⟩, .p) <| .c (⟨some 4, .nilCheck (.tmp 3), none⟩, .p) <| .c (⟨some 5, .fieldAddr 31 (.tmp 4) 0, none⟩, .p) <| .c (⟨some 6, .load 3 (.tmp 5), none⟩, .l) <| .c (⟨some 7, .move (.tmp 0), none⟩, .p) <| .c (⟨some 8, .nilCheck (.tmp 7), none⟩, .p) <| .c (⟨some 9, .fieldAddr 31 (.tmp 8) 1, none⟩, .p) <| .c (⟨some 10, .load 28 (.tmp 9), none⟩, .l) <| .c (⟨some 11, .call { callee := .builtin .len, args := #[.tmp 10], argTypes := #[28] }, none⟩, .p) <| .c (⟨some 12, .binOp .add 3 (.tmp 6) (.tmp 11) 3, none⟩, .p) <| .c (⟨some 2, .assign (.tmp 12), none⟩, .p) <| .n) Q a) : LI Try.prog h0 L (.raw (.region id rg115_0 true)) Q a :=
  LI_draw (.c (0, .p) <| .c (1, .p) <| .c (2, .p) <| .c (3, .l) <| .c (4, .p) <| .c (5, .p) <| .c (6, .p) <| .c (7, .l) <| .c (8, .p) <| .c (9, .p) <| .c (10, .p) <| .n) [] (by kernel_rfl) (by kernel_rfl) (by kernel_rfl) H
theorem dr115_0 (m : Nat) {Q : Exit → List AV → AH → Prop} {a : List AV} {h : AH} {id : Nat} (H : AX Try.prog m h [(⟨some 3, .move (.tmp 0), none⟩, true),
  (⟨some 4, .nilCheck (.tmp 3), none⟩, true),
  (⟨some 5, .fieldAddr 31 (.tmp 4) 0, none⟩, true),
  (⟨some 6, .load 3 (.tmp 5), none⟩, true),
  (⟨some 7, .move (.tmp 0), none⟩, true),
  (⟨some 8, .nilCheck (.tmp 7), none⟩, true),
  (⟨some 9, .fieldAddr 31 (.tmp 8) 1, none⟩, true),
  (⟨some 10, .load 28 (.tmp 9), none⟩, true),
  (⟨some 11, .call { callee := .builtin .len, args := #[.tmp 10], argTypes := #[28] }, none⟩, true),
  (⟨some 12, .binOp .add 3 (.tmp 6) (.tmp 11) 3, none⟩, true),
  (⟨some 2, .assign (.tmp 12), none⟩, true)] (fun a' h' => Q .normal a' h') a h) : AI Try.prog (.raw (.region id rg115_0 true)) Q a h :=
  AI_draw [(0, true), (1, true), (2, true), (3, true), (4, true), (5, true), (6, true), (7, true), (8, true), (9, true), (10, true)] m (by kernel_rfl) (by kernel_rfl) (by kernel_rfl) H

/-- impl.step -/
def c116 : IC :=
  (.seq
  (.reg [
    ⟨some 4, .alloc 108, none⟩])
  (.seq
  (.reg [
    ⟨some 5, .move (.tmp 0), none⟩,
    ⟨some 6, .move (.tmp 1), none⟩,
    ⟨some 7, .call { callee := .builtin .min, args := #[.tmp 5, .tmp 6], argTypes := #[3, 3] }, none⟩,
    ⟨some 8, .move (.tmp 0), none⟩,
    ⟨some 9, .move (.tmp 1), none⟩,
    ⟨some 10, .call { callee := .builtin .max, args := #[.tmp 8, .tmp 9], argTypes := #[3, 3] }, none⟩,
    ⟨some 11, .build 108 #[(0, .tmp 7), (1, .tmp 10)], none⟩,
    ⟨none, .store 108 (.tmp 4) (.tmp 11), none⟩])
  .ret))
theorem hd116 : Try.f116.body.map dec = some c116 := by kernel_rfl
theorem e116 {R : AV → AH → Prop} {h : AH} (x0 x1 : AV) (H : h.wf → AI Try.prog c116 (RetQ Try.prog [.cell 4 108] R) [x0, x1, un, un, un, un, un, un, un, un, un, un] h) : AC Try.prog 116 [x0, x1] h R :=
  AC_of' (rs := [.cell 4 108]) Try.func116 (by kernel_rfl) hd116 Try.ntmps116 rfl H

noncomputable def rg67_0 : Array Oper := rawAt Try.f67 0
/-- (*impl.maker).multiply -/
noncomputable def c67 : IC :=
  (.seq
  (.reg [
    ⟨some 6, .assign (.const (.int .i64 0)), none⟩])
  (.seq
  (.raw (.region 1 rg67_0 true))
  (.seq
  (.reg [
    ⟨some 21, .move (.tmp 0), none⟩,
    ⟨some 22, .nilCheck (.tmp 21), none⟩,
    ⟨some 23, .fieldAddr 97 (.tmp 22) 0, none⟩,
    ⟨some 24, .call { callee := .value (.func 115), args := #[.tmp 23], argTypes := #[31] }, none⟩,
    ⟨some 25, .binOp .sub 3 (.tmp 24) (.const (.int .i64 1)) 3, none⟩,
    ⟨some 6, .assign (.tmp 25), none⟩])
  .ret)))
theorem hd67 : Try.f67.body.map dec = some c67 := by kernel_rfl
theorem e67 {R : AV → AH → Prop} {h : AH} (x0 x1 x2 : AV) (H : h.wf → AI Try.prog c67 (RetQ Try.prog [.tmp 6] R) [x0, x1, x2, un, un, un, un, un, un, un, un, un, un, un, un, un, un, un, un, un, un, un, un, un, un, un] h) : AC Try.prog 67 [x0, x1, x2] h R :=
  AC_of' (rs := [.tmp 6]) Try.func67 (by kernel_rfl) hd67 Try.ntmps67 rfl H
theorem dz67_0 {h0 : AH} {L : List It} {Q : Exit → List AV → List It → Prop} {a : List AV} {id : Nat} (H : LX Try.prog ⟨[10, 14], []⟩ h0 L L (.c (⟨some 7, .move (.tmp 0), none⟩, .p) <| .c (⟨some 8, .move (.tmp 0), none⟩, .p) <| .c (⟨some 9, .nilCheck (.tmp 8), none⟩, .p) <| .c (⟨some 10, .fieldAddr 97 (.tmp 9) 0, none⟩, .p) <| .c (⟨some 11, .fieldAddr 31 (.tmp 10) 1, none⟩, .p) <| .c (⟨some 12, .load 28 (.tmp 11), none⟩, .l) <| .c (⟨some 13, .move (.tmp 1), none⟩, .p) <| .c (⟨some 14, .move (.tmp 2), none⟩, .p) <| .c (⟨some 15, .call { callee := .value (.func 116), args := #[.tmp 13, .tmp 14], argTypes := #[3, 3] }, none⟩, .e) <| .c (⟨some 16, .buildSlice 28 1 #[(0, .tmp 15)], none⟩, .e) <| .c (⟨some 17, .call { callee := .builtin .append, args := #[.tmp 12, .tmp 16], argTypes := #[28, 28] }, none⟩, .f) <| .c (⟨some 18, .nilCheck (.tmp 7), none⟩, .p) <| .c (⟨some 19, .fieldAddr 97 (.tmp 18) 0, none⟩, .p) <| .c (⟨some 20, .fieldAddr 31 (.tmp 19) 1, none⟩, .p) <| .c (⟨none, .store 28 (.tmp 20) (.tmp 17), none⟩, .f) <| .n) Q a) : LI Try.prog h0 L (.raw (.region id rg67_0 true)) Q a :=
  LI_draw (.c (0, .p) <| .c (1, .p) <| .c (2, .p) <| .c (3, .p) <| .c (4, .p) <| .c (5, .l) <| .c (6, .p) <| .c (7, .p) <| .c (8, .e) <| .c (9, .e) <| .c (10, .f) <| .c (11, .p) <| .c (12, .p) <| .c (13, .p) <| .c (14, .f) <| .n) [10, 14] (by kernel_rfl) (by kernel_rfl) (by kernel_rfl) H
theorem db67_0 {h0 : AH} {L : List It} {Q : Exit → List AV → List It → Prop} {a : List AV} {id : Nat} (K : List (Nat × List AV)) (hK : ∀ x ∈ K, It.pt x.1 x.2 ∈ L) (H : LX Try.prog ⟨[8, 9, 10, 14], K⟩ h0 L L (.c (⟨some 7, .move (.tmp 0), none⟩, .p) <| .c (⟨some 8, .move (.tmp 0), none⟩, .p) <| .c (⟨some 9, .nilCheck (.tmp 8), none⟩, .p) <| .c (⟨some 10, .fieldAddr 97 (.tmp 9) 0, none⟩, .p) <| .c (⟨some 11, .fieldAddr 31 (.tmp 10) 1, none⟩, .p) <| .c (⟨some 13, .move (.tmp 1), none⟩, .p) <| .c (⟨some 14, .move (.tmp 2), none⟩, .p) <| .t (.c (⟨some 12, .load 28 (.tmp 11), none⟩, .e) <| .c (⟨some 15, .call { callee := .value (.func 116), args := #[.tmp 13, .tmp 14], argTypes := #[3, 3] }, none⟩, .f) <| .c (⟨some 16, .buildSlice 28 1 #[(0, .tmp 15)], none⟩, .f) <| .c (⟨some 17, .call { callee := .builtin .append, args := #[.tmp 12, .tmp 16], argTypes := #[28, 28] }, none⟩, .f) <| .c (⟨some 18, .nilCheck (.tmp 7), none⟩, .p) <| .c (⟨some 19, .fieldAddr 97 (.tmp 18) 0, none⟩, .p) <| .c (⟨some 20, .fieldAddr 31 (.tmp 19) 1, none⟩, .p) <| .c (⟨none, .store 28 (.tmp 20) (.tmp 17), none⟩, .f) <| .n) (.c (⟨some 15, .call { callee := .value (.func 116), args := #[.tmp 13, .tmp 14], argTypes := #[3, 3] }, none⟩, .f) <| .t (.c (⟨some 12, .load 28 (.tmp 11), none⟩, .e) <| .c (⟨some 16, .buildSlice 28 1 #[(0, .tmp 15)], none⟩, .f) <| .c (⟨some 17, .call { callee := .builtin .append, args := #[.tmp 12, .tmp 16], argTypes := #[28, 28] }, none⟩, .f) <| .c (⟨some 18, .nilCheck (.tmp 7), none⟩, .p) <| .c (⟨some 19, .fieldAddr 97 (.tmp 18) 0, none⟩, .p) <| .c (⟨some 20, .fieldAddr 31 (.tmp 19) 1, none⟩, .p) <| .c (⟨none, .store 28 (.tmp 20) (.tmp 17), none⟩, .f) <| .n) (.c (⟨some 16, .buildSlice 28 1 #[(0, .tmp 15)], none⟩, .f) <| .c (⟨some 12, .load 28 (.tmp 11), none⟩, .e) <| .c (⟨some 17, .call { callee := .builtin .append, args := #[.tmp 12, .tmp 16], argTypes := #[28, 28] }, none⟩, .f) <| .c (⟨some 18, .nilCheck (.tmp 7), none⟩, .p) <| .c (⟨some 19, .fieldAddr 97 (.tmp 18) 0, none⟩, .p) <| .c (⟨some 20, .fieldAddr 31 (.tmp 19) 1, none⟩, .p) <| .c (⟨none, .store 28 (.tmp 20) (.tmp 17), none⟩, .f) <| .n))) Q a) : LI Try.prog h0 L (.raw (.region id rg67_0 true)) Q a :=
  LI_drawK (.c (0, .p) <| .c (1, .p) <| .c (2, .p) <| .c (3, .p) <| .c (4, .p) <| .c (6, .p) <| .c (7, .p) <| .t (.c (5, .e) <| .c (8, .f) <| .c (9, .f) <| .c (10, .f) <| .c (11, .p) <| .c (12, .p) <| .c (13, .p) <| .c (14, .f) <| .n) (.c (8, .f) <| .t (.c (5, .e) <| .c (9, .f) <| .c (10, .f) <| .c (11, .p) <| .c (12, .p) <| .c (13, .p) <| .c (14, .f) <| .n) (.c (9, .f) <| .c (5, .e) <| .c (10, .f) <| .c (11, .p) <| .c (12, .p) <| .c (13, .p) <| .c (14, .f) <| .n))) [8, 9, 10, 14] K hK (by kernel_rfl) (by kernel_rfl) (by kernel_rfl) H
theorem dr67_0 (m : Nat) {Q : Exit → List AV → AH → Prop} {a : List AV} {h : AH} {id : Nat} (H : AX Try.prog m h [(⟨some 7, .move (.tmp 0), none⟩, true),
  (⟨some 8, .move (.tmp 0), none⟩, true),
  (⟨some 9, .nilCheck (.tmp 8), none⟩, true),
  (⟨some 10, .fieldAddr 97 (.tmp 9) 0, none⟩, true),
  (⟨some 11, .fieldAddr 31 (.tmp 10) 1, none⟩, true),
  (⟨some 12, .load 28 (.tmp 11), none⟩, true),
  (⟨some 13, .move (.tmp 1), none⟩, true),
  (⟨some 14, .move (.tmp 2), none⟩, true),
  (⟨some 15, .call { callee := .value (.func 116), args := #[.tmp 13, .tmp 14], argTypes := #[3, 3] }, none⟩, false),
  (⟨some 16, .buildSlice 28 1 #[(0, .tmp 15)], none⟩, false),
  (⟨some 17, .call { callee := .builtin .append, args := #[.tmp 12, .tmp 16], argTypes := #[28, 28] }, none⟩, false),
  (⟨some 18, .nilCheck (.tmp 7), none⟩, true),
  (⟨some 19, .fieldAddr 97 (.tmp 18) 0, none⟩, true),
  (⟨some 20, .fieldAddr 31 (.tmp 19) 1, none⟩, true),
  (⟨none, .store 28 (.tmp 20) (.tmp 17), none⟩, false)] (fun a' h' => Q .normal a' h') a h) : AI Try.prog (.raw (.region id rg67_0 true)) Q a h :=
  AI_draw [(0, true), (1, true), (2, true), (3, true), (4, true), (5, true), (6, true), (7, true), (8, false), (9, false), (10, false), (11, true), (12, true), (13, true), (14, false)] m (by kernel_rfl) (by kernel_rfl) (by kernel_rfl) H

/-- slices.IndexFunc[[]int,int] -/
def c143 : IC :=
  (.seq
  (.reg [
    ⟨some 4, .assign (.const (.int .i64 0)), none⟩])
  (.seq
  (.seq
  (.reg [
    ⟨some 6, .move (.tmp 0), none⟩,
    ⟨some 7, .call { callee := .builtin .len, args := #[.tmp 6], argTypes := #[29] }, none⟩,
    ⟨some 8, .move (.const (.int .i64 0)), none⟩])
  (.block 0
  (.loop
    (.seq
    (.reg [
      ⟨some 9, .binOp .lss 3 (.tmp 8) (.tmp 7) 3, none⟩])
    (.seq
    (.cond (.tmp 9)
      .skip
      (.exit 0))
    (.seq
    (.block 1
    (.seq
    (.reg [
      ⟨some 10, .move (.tmp 8), none⟩,
      ⟨some 5, .assign (.tmp 10), none⟩])
    (.seq
    (.reg [
      ⟨some 11, .move (.tmp 1), none⟩,
      ⟨some 12, .move (.tmp 0), none⟩,
      ⟨some 13, .move (.tmp 5), none⟩,
      ⟨some 14, .indexAddr 29 (.tmp 12) (.tmp 13), none⟩,
      ⟨some 15, .load 3 (.tmp 14), none⟩,
      ⟨some 16, .call { callee := .value (.tmp 11), args := #[.tmp 15], argTypes := #[3] }, none⟩])
    (.cond (.tmp 16)
      (.seq
      (.reg [
        ⟨some 17, .move (.tmp 5), none⟩,
        ⟨some 4, .assign (.tmp 17), none⟩])
      .ret)
      .skip))))
    (.reg [
      ⟨some 18, .binOp .add 3 (.tmp 8) (.const (.int .i64 1)) 3, none⟩,
      ⟨some 8, .move (.tmp 18), none⟩])))))))
  (.seq
  (.reg [
    ⟨some 4, .assign (.const (.int .i64 (-1))), none⟩])
  .ret)))
theorem hd143 : Try.f143.body.map dec = some c143 := by kernel_rfl
theorem e143 {R : AV → AH → Prop} {h : AH} (x0 x1 : AV) (H : h.wf → AI Try.prog c143 (RetQ Try.prog [.tmp 4] R) [x0, x1, un, un, un, un, un, un, un, un, un, un, un, un, un, un, un, un, un] h) : AC Try.prog 143 [x0, x1] h R :=
  AC_of' (rs := [.tmp 4]) Try.func143 (by kernel_rfl) hd143 Try.ntmps143 rfl H

/-- slices.ContainsFunc[[]int,int] -/
def c105 : IC :=
  (.seq
  (.reg [
    ⟨some 4, .assign (.const (.bool false)), none⟩])
  (.seq
  (.reg [
    ⟨some 5, .move (.tmp 0), none⟩,
    ⟨some 6, .move (.tmp 1), none⟩,
    ⟨some 7, .call { callee := .value (.func 143), args := #[.tmp 5, .tmp 6], argTypes := #[29, 24] }, none⟩,
    ⟨some 8, .binOp .geq 3 (.tmp 7) (.const (.int .i64 0)) 3, none⟩,
    ⟨some 4, .assign (.tmp 8), none⟩])
  .ret))
theorem hd105 : Try.f105.body.map dec = some c105 := by kernel_rfl
theorem e105 {R : AV → AH → Prop} {h : AH} (x0 x1 : AV) (H : h.wf → AI Try.prog c105 (RetQ Try.prog [.tmp 4] R) [x0, x1, un, un, un, un, un, un, un] h) : AC Try.prog 105 [x0, x1] h R :=
  AC_of' (rs := [.tmp 4]) Try.func105 (by kernel_rfl) hd105 Try.ntmps105 rfl H

/-- (*impl.Plan).formed$1 -/
def c156 : IC :=
  (.seq
  (.reg [
    ⟨some 3, .assign (.const (.bool false)), none⟩])
  (.seq
  (.reg [
    ⟨some 4, .move (.tmp 0), none⟩,
    ⟨some 5, .load 87 (.tmp 1), none⟩,
    ⟨some 6, .call { callee := .value (.func 115), args := #[.tmp 5], argTypes := #[87] }, none⟩,
    ⟨some 7, .binOp .sub 3 (.tmp 6) (.const (.int .i64 1)) 3, none⟩,
    ⟨some 8, .call { callee := .value (.func 104), args := #[.tmp 4, .const (.int .i64 0), .tmp 7], argTypes := #[3, 3, 3] }, none⟩,
    ⟨some 9, .unOp .not 4 (.tmp 8), none⟩,
    ⟨some 3, .assign (.tmp 9), none⟩])
  .ret))
theorem hd156 : Try.f156.body.map dec = some c156 := by kernel_rfl
theorem e156 {R : AV → AH → Prop} {h : AH} (x0 x1 : AV) (H : h.wf → AI Try.prog c156 (RetQ Try.prog [.tmp 3] R) [x0, x1, un, un, un, un, un, un, un, un] h) : AC Try.prog 156 [x0, x1] h R :=
  AC_of' (rs := [.tmp 3]) Try.func156 (by kernel_rfl) hd156 Try.ntmps156 rfl H

noncomputable def rg131_0 : Array Oper := rawAt Try.f131 0
-- NO ORDER
/-- (*impl.Plan).formed -/
noncomputable def c131 : IC :=
  (.seq
  (.reg [
    ⟨some 1, .box 87 (.tmp 0), none⟩,
    ⟨some 2, .assign (.const (.bool false)), none⟩])
  (.seq
  (.seq
  (.reg [
    ⟨some 5, .load 87 (.tmp 1), none⟩,
    ⟨some 6, .nilCheck (.tmp 5), none⟩,
    ⟨some 7, .fieldAddr 31 (.tmp 6) 0, none⟩,
    ⟨some 8, .load 3 (.tmp 7), none⟩,
    ⟨some 9, .call { callee := .value (.func 104), args := #[.tmp 8, .const (.int .i64 1), .const (.int .i64 6)], argTypes := #[3, 3, 3] }, none⟩,
    ⟨some 10, .unOp .not 4 (.tmp 9), none⟩,
    ⟨some 11, .move (.tmp 10), none⟩,
    ⟨some 12, .load 87 (.tmp 1), some (11, false)⟩,
    ⟨some 13, .nilCheck (.tmp 12), some (11, false)⟩,
    ⟨some 14, .fieldAddr 31 (.tmp 13) 1, some (11, false)⟩,
    ⟨some 15, .load 28 (.tmp 14), some (11, false)⟩,
    ⟨some 16, .call { callee := .builtin .len, args := #[.tmp 15], argTypes := #[28] }, some (11, false)⟩,
    ⟨some 17, .binOp .gtr 3 (.tmp 16) (.const (.int .i64 40)) 3, some (11, false)⟩,
    ⟨some 18, .pick (.tmp 11) (.const (.bool true)) (.tmp 17), none⟩,
    ⟨some 19, .move (.tmp 18), none⟩,
    ⟨some 20, .load 87 (.tmp 1), some (19, false)⟩,
    ⟨some 21, .nilCheck (.tmp 20), some (19, false)⟩,
    ⟨some 22, .fieldAddr 31 (.tmp 21) 2, some (19, false)⟩,
    ⟨some 23, .load 29 (.tmp 22), some (19, false)⟩,
    ⟨some 24, .call { callee := .builtin .len, args := #[.tmp 23], argTypes := #[29] }, some (19, false)⟩,
    ⟨some 25, .binOp .gtr 3 (.tmp 24) (.const (.int .i64 6)) 3, some (19, false)⟩,
    ⟨some 26, .pick (.tmp 19) (.const (.bool true)) (.tmp 25), none⟩])
  (.cond (.tmp 26)
    (.seq
    (.reg [
      ⟨some 2, .assign (.const (.bool false)), none⟩])
    .ret)
    .skip))
  (.seq
  (.seq
  (.reg [
    ⟨some 27, .load 87 (.tmp 1), none⟩,
    ⟨some 28, .nilCheck (.tmp 27), none⟩,
    ⟨some 29, .fieldAddr 31 (.tmp 28) 1, none⟩,
    ⟨some 30, .load 28 (.tmp 29), none⟩,
    ⟨some 31, .call { callee := .builtin .len, args := #[.tmp 30], argTypes := #[28] }, none⟩,
    ⟨some 32, .move (.const (.int .i64 0)), none⟩])
  (.block 0
  (.loop
    (.seq
    (.reg [
      ⟨some 33, .binOp .lss 3 (.tmp 32) (.tmp 31) 3, none⟩])
    (.seq
    (.cond (.tmp 33)
      .skip
      (.exit 0))
    (.seq
    (.block 1
    (.seq
    (.reg [
      ⟨some 34, .move (.tmp 32), none⟩,
      ⟨some 35, .indexAddr 28 (.tmp 30) (.tmp 32), none⟩,
      ⟨some 36, .load 108 (.tmp 35), none⟩,
      ⟨some 4, .alloc 108, none⟩,
      ⟨some 3, .assign (.tmp 34), none⟩,
      ⟨none, .store 108 (.tmp 4) (.tmp 36), none⟩])
    (.seq
    (.raw (.region 6 rg131_0 true))
    (.cond (.tmp 57)
      (.seq
      (.reg [
        ⟨some 2, .assign (.const (.bool false)), none⟩])
      .ret)
      .skip))))
    (.reg [
      ⟨some 58, .binOp .add 3 (.tmp 32) (.const (.int .i64 1)) 3, none⟩,
      ⟨some 32, .move (.tmp 58), none⟩])))))))
  (.seq
  (.reg [
    ⟨some 59, .load 87 (.tmp 1), none⟩,
    ⟨some 60, .nilCheck (.tmp 59), none⟩,
    ⟨some 61, .fieldAddr 31 (.tmp 60) 2, none⟩,
    ⟨some 62, .load 29 (.tmp 61), none⟩,
    ⟨some 63, .makeFunc (.func 156) #[] #[.tmp 1], none⟩,
    ⟨some 64, .call { callee := .value (.func 105), args := #[.tmp 62, .tmp 63], argTypes := #[29, 24] }, none⟩,
    ⟨some 65, .unOp .not 4 (.tmp 64), none⟩,
    ⟨some 2, .assign (.tmp 65), none⟩])
  .ret))))
theorem hd131 : Try.f131.body.map dec = some c131 := by kernel_rfl
theorem e131 {R : AV → AH → Prop} {h : AH} (x0 : AV) (H : h.wf → AI Try.prog c131 (RetQ Try.prog [.tmp 2] R) [x0, un, un, un, un, un, un, un, un, un, un, un, un, un, un, un, un, un, un, un, un, un, un, un, un, un, un, un, un, un, un, un, un, un, un, un, un, un, un, un, un, un, un, un, un, un, un, un, un, un, un, un, un, un, un, un, un, un, un, un, un, un, un, un, un, un] h) : AC Try.prog 131 [x0] h R :=
  AC_of' (rs := [.tmp 2]) Try.func131 (by kernel_rfl) hd131 Try.ntmps131 rfl H
theorem dz131_0 {h0 : AH} {L : List It} {Q : Exit → List AV → List It → Prop} {a : List AV} {id : Nat} (H : LX Try.prog ⟨[], []⟩ h0 L L (.c (⟨some 37, .fieldAddr 108 (.tmp 4) 0, none⟩, .p) <| .c (⟨some 38, .load 3 (.tmp 37), none⟩, .l) <| .c (⟨some 39, .binOp .lss 3 (.tmp 38) (.const (.int .i64 0)) 3, none⟩, .p) <| .c (⟨some 40, .move (.tmp 39), none⟩, .p) <| .c (⟨some 41, .fieldAddr 108 (.tmp 4) 0, some (40, false)⟩, .p) <| .c (⟨some 42, .load 3 (.tmp 41), some (40, false)⟩, .l) <| .c (⟨some 43, .fieldAddr 108 (.tmp 4) 1, some (40, false)⟩, .p) <| .c (⟨some 44, .load 3 (.tmp 43), some (40, false)⟩, .l) <| .c (⟨some 45, .binOp .gtr 3 (.tmp 42) (.tmp 44) 3, some (40, false)⟩, .p) <| .c (⟨some 46, .pick (.tmp 40) (.const (.bool true)) (.tmp 45), none⟩, .p) <| .c (⟨some 47, .move (.tmp 46), none⟩, .p) <| .c (⟨some 48, .fieldAddr 108 (.tmp 4) 1, some (47, false)⟩, .p) <| .c (⟨some 49, .load 3 (.tmp 48), some (47, false)⟩, .l) <| .c (⟨some 50, .load 87 (.tmp 1), some (47, false)⟩, .l) <| .c (⟨some 51, .nilCheck (.tmp 50), some (47, false)⟩, .p) <| .c (⟨some 52, .fieldAddr 31 (.tmp 51) 0, some (47, false)⟩, .p) <| .c (⟨some 53, .load 3 (.tmp 52), some (47, false)⟩, .l) <| .c (⟨some 54, .move (.tmp 3), some (47, false)⟩, .p) <| .c (⟨some 55, .binOp .add 3 (.tmp 53) (.tmp 54) 3, some (47, false)⟩, .p) <| .c (⟨some 56, .binOp .geq 3 (.tmp 49) (.tmp 55) 3, some (47, false)⟩, .p) <| .c (⟨some 57, .pick (.tmp 47) (.const (.bool true)) (.tmp 56), none⟩, .p) <| .n) Q a) : LI Try.prog h0 L (.raw (.region id rg131_0 true)) Q a :=
  LI_draw (.c (0, .p) <| .c (1, .l) <| .c (2, .p) <| .c (3, .p) <| .c (4, .p) <| .c (5, .l) <| .c (6, .p) <| .c (7, .l) <| .c (8, .p) <| .c (9, .p) <| .c (10, .p) <| .c (11, .p) <| .c (12, .l) <| .c (13, .l) <| .c (14, .p) <| .c (15, .p) <| .c (16, .l) <| .c (17, .p) <| .c (18, .p) <| .c (19, .p) <| .c (20, .p) <| .n) [] (by kernel_rfl) (by kernel_rfl) (by kernel_rfl) H

/-- slices.IndexFunc[[][]int,[]int] -/
def c157 : IC :=
  (.seq
  (.reg [
    ⟨some 4, .assign (.const (.int .i64 0)), none⟩])
  (.seq
  (.seq
  (.reg [
    ⟨some 6, .move (.tmp 0), none⟩,
    ⟨some 7, .call { callee := .builtin .len, args := #[.tmp 6], argTypes := #[39] }, none⟩,
    ⟨some 8, .move (.const (.int .i64 0)), none⟩])
  (.block 0
  (.loop
    (.seq
    (.reg [
      ⟨some 9, .binOp .lss 3 (.tmp 8) (.tmp 7) 3, none⟩])
    (.seq
    (.cond (.tmp 9)
      .skip
      (.exit 0))
    (.seq
    (.block 1
    (.seq
    (.reg [
      ⟨some 10, .move (.tmp 8), none⟩,
      ⟨some 5, .assign (.tmp 10), none⟩])
    (.seq
    (.reg [
      ⟨some 11, .move (.tmp 1), none⟩,
      ⟨some 12, .move (.tmp 0), none⟩,
      ⟨some 13, .move (.tmp 5), none⟩,
      ⟨some 14, .indexAddr 39 (.tmp 12) (.tmp 13), none⟩,
      ⟨some 15, .load 29 (.tmp 14), none⟩,
      ⟨some 16, .call { callee := .value (.tmp 11), args := #[.tmp 15], argTypes := #[29] }, none⟩])
    (.cond (.tmp 16)
      (.seq
      (.reg [
        ⟨some 17, .move (.tmp 5), none⟩,
        ⟨some 4, .assign (.tmp 17), none⟩])
      .ret)
      .skip))))
    (.reg [
      ⟨some 18, .binOp .add 3 (.tmp 8) (.const (.int .i64 1)) 3, none⟩,
      ⟨some 8, .move (.tmp 18), none⟩])))))))
  (.seq
  (.reg [
    ⟨some 4, .assign (.const (.int .i64 (-1))), none⟩])
  .ret)))
theorem hd157 : Try.f157.body.map dec = some c157 := by kernel_rfl
theorem e157 {R : AV → AH → Prop} {h : AH} (x0 x1 : AV) (H : h.wf → AI Try.prog c157 (RetQ Try.prog [.tmp 4] R) [x0, x1, un, un, un, un, un, un, un, un, un, un, un, un, un, un, un, un, un] h) : AC Try.prog 157 [x0, x1] h R :=
  AC_of' (rs := [.tmp 4]) Try.func157 (by kernel_rfl) hd157 Try.ntmps157 rfl H

/-- slices.ContainsFunc[[][]int,[]int] -/
def c132 : IC :=
  (.seq
  (.reg [
    ⟨some 4, .assign (.const (.bool false)), none⟩])
  (.seq
  (.reg [
    ⟨some 5, .move (.tmp 0), none⟩,
    ⟨some 6, .move (.tmp 1), none⟩,
    ⟨some 7, .call { callee := .value (.func 157), args := #[.tmp 5, .tmp 6], argTypes := #[39, 54] }, none⟩,
    ⟨some 8, .binOp .geq 3 (.tmp 7) (.const (.int .i64 0)) 3, none⟩,
    ⟨some 4, .assign (.tmp 8), none⟩])
  .ret))
theorem hd132 : Try.f132.body.map dec = some c132 := by kernel_rfl
theorem e132 {R : AV → AH → Prop} {h : AH} (x0 x1 : AV) (H : h.wf → AI Try.prog c132 (RetQ Try.prog [.tmp 4] R) [x0, x1, un, un, un, un, un, un, un] h) : AC Try.prog 132 [x0, x1] h R :=
  AC_of' (rs := [.tmp 4]) Try.func132 (by kernel_rfl) hd132 Try.ntmps132 rfl H

/-- (*impl.Plan).exponents -/
def c133 : IC :=
  (.seq
  (.reg [
    ⟨some 2, .assign (.const (.slice none 0 0)), none⟩])
  (.seq
  (.reg [
    ⟨some 11, .buildSlice 39 0 #[], none⟩,
    ⟨some 3, .assign (.tmp 11), none⟩])
  (.seq
  (.seq
  (.reg [
    ⟨some 12, .move (.tmp 0), none⟩,
    ⟨some 13, .nilCheck (.tmp 12), none⟩,
    ⟨some 14, .fieldAddr 31 (.tmp 13) 0, none⟩,
    ⟨some 15, .load 3 (.tmp 14), none⟩,
    ⟨some 16, .move (.const (.int .i64 0)), none⟩])
  (.block 0
  (.loop
    (.seq
    (.reg [
      ⟨some 17, .binOp .lss 3 (.tmp 16) (.tmp 15) 3, none⟩])
    (.seq
    (.cond (.tmp 17)
      .skip
      (.exit 0))
    (.seq
    (.block 1
    (.seq
    (.reg [
      ⟨some 18, .move (.tmp 16), none⟩,
      ⟨some 4, .assign (.tmp 18), none⟩])
    (.seq
    (.reg [
      ⟨some 19, .move (.tmp 0), none⟩,
      ⟨some 20, .nilCheck (.tmp 19), none⟩,
      ⟨some 21, .fieldAddr 31 (.tmp 20) 0, none⟩,
      ⟨some 22, .load 3 (.tmp 21), none⟩,
      ⟨some 23, .makeSlice 29 (.tmp 22) (.tmp 22), none⟩,
      ⟨some 5, .assign (.tmp 23), none⟩])
    (.seq
    (.reg [
      ⟨some 24, .move (.tmp 5), none⟩,
      ⟨some 25, .move (.tmp 4), none⟩,
      ⟨some 26, .indexAddr 29 (.tmp 24) (.tmp 25), none⟩,
      ⟨none, .store 3 (.tmp 26) (.const (.int .i64 1)), none⟩])
    (.reg [
      ⟨some 27, .move (.tmp 3), none⟩,
      ⟨some 28, .move (.tmp 5), none⟩,
      ⟨some 29, .buildSlice 39 1 #[(0, .tmp 28)], none⟩,
      ⟨some 30, .call { callee := .builtin .append, args := #[.tmp 27, .tmp 29], argTypes := #[39, 39] }, none⟩,
      ⟨some 3, .assign (.tmp 30), none⟩])))))
    (.reg [
      ⟨some 31, .binOp .add 3 (.tmp 16) (.const (.int .i64 1)) 3, none⟩,
      ⟨some 16, .move (.tmp 31), none⟩])))))))
  (.seq
  (.seq
  (.reg [
    ⟨some 32, .move (.tmp 0), none⟩,
    ⟨some 33, .nilCheck (.tmp 32), none⟩,
    ⟨some 34, .fieldAddr 31 (.tmp 33) 1, none⟩,
    ⟨some 35, .load 28 (.tmp 34), none⟩,
    ⟨some 36, .call { callee := .builtin .len, args := #[.tmp 35], argTypes := #[28] }, none⟩,
    ⟨some 37, .move (.const (.int .i64 0)), none⟩])
  (.block 2
  (.loop
    (.seq
    (.reg [
      ⟨some 38, .binOp .lss 3 (.tmp 37) (.tmp 36) 3, none⟩])
    (.seq
    (.cond (.tmp 38)
      .skip
      (.exit 2))
    (.seq
    (.block 3
    (.seq
    (.reg [
      ⟨some 39, .indexAddr 28 (.tmp 35) (.tmp 37), none⟩,
      ⟨some 40, .load 108 (.tmp 39), none⟩,
      ⟨some 7, .alloc 108, none⟩,
      ⟨none, .store 108 (.tmp 7) (.tmp 40), none⟩])
    (.seq
    (.reg [
      ⟨some 41, .buildSlice 29 0 #[], none⟩,
      ⟨some 8, .assign (.tmp 41), none⟩])
    (.seq
    (.seq
    (.reg [
      ⟨some 42, .move (.tmp 3), none⟩,
      ⟨some 43, .fieldAddr 108 (.tmp 7) 0, none⟩,
      ⟨some 44, .load 3 (.tmp 43), none⟩,
      ⟨some 45, .indexAddr 39 (.tmp 42) (.tmp 44), none⟩,
      ⟨some 46, .load 29 (.tmp 45), none⟩,
      ⟨some 47, .call { callee := .builtin .len, args := #[.tmp 46], argTypes := #[29] }, none⟩,
      ⟨some 48, .move (.const (.int .i64 0)), none⟩])
    (.block 4
    (.loop
      (.seq
      (.reg [
        ⟨some 49, .binOp .lss 3 (.tmp 48) (.tmp 47) 3, none⟩])
      (.seq
      (.cond (.tmp 49)
        .skip
        (.exit 4))
      (.seq
      (.block 5
      (.seq
      (.reg [
        ⟨some 50, .move (.tmp 48), none⟩,
        ⟨some 51, .indexAddr 29 (.tmp 46) (.tmp 48), none⟩,
        ⟨some 52, .load 3 (.tmp 51), none⟩,
        ⟨some 9, .assign (.tmp 50), none⟩,
        ⟨some 10, .assign (.tmp 52), none⟩])
      (.reg [
        ⟨some 53, .move (.tmp 8), none⟩,
        ⟨some 54, .move (.tmp 10), none⟩,
        ⟨some 55, .move (.tmp 3), none⟩,
        ⟨some 56, .fieldAddr 108 (.tmp 7) 1, none⟩,
        ⟨some 57, .load 3 (.tmp 56), none⟩,
        ⟨some 58, .indexAddr 39 (.tmp 55) (.tmp 57), none⟩,
        ⟨some 59, .load 29 (.tmp 58), none⟩,
        ⟨some 60, .move (.tmp 9), none⟩,
        ⟨some 61, .indexAddr 29 (.tmp 59) (.tmp 60), none⟩,
        ⟨some 62, .load 3 (.tmp 61), none⟩,
        ⟨some 63, .binOp .add 3 (.tmp 54) (.tmp 62) 3, none⟩,
        ⟨some 64, .call { callee := .builtin .min, args := #[.tmp 63, .const (.int .i64 1000001)], argTypes := #[3, 3] }, none⟩,
        ⟨some 65, .buildSlice 29 1 #[(0, .tmp 64)], none⟩,
        ⟨some 66, .call { callee := .builtin .append, args := #[.tmp 53, .tmp 65], argTypes := #[29, 29] }, none⟩,
        ⟨some 8, .assign (.tmp 66), none⟩])))
      (.reg [
        ⟨some 67, .binOp .add 3 (.tmp 48) (.const (.int .i64 1)) 3, none⟩,
        ⟨some 48, .move (.tmp 67), none⟩])))))))
    (.reg [
      ⟨some 68, .move (.tmp 3), none⟩,
      ⟨some 69, .move (.tmp 8), none⟩,
      ⟨some 70, .buildSlice 39 1 #[(0, .tmp 69)], none⟩,
      ⟨some 71, .call { callee := .builtin .append, args := #[.tmp 68, .tmp 70], argTypes := #[39, 39] }, none⟩,
      ⟨some 3, .assign (.tmp 71), none⟩])))))
    (.reg [
      ⟨some 72, .binOp .add 3 (.tmp 37) (.const (.int .i64 1)) 3, none⟩,
      ⟨some 37, .move (.tmp 72), none⟩])))))))
  (.seq
  (.reg [
    ⟨some 73, .move (.tmp 3), none⟩,
    ⟨some 2, .assign (.tmp 73), none⟩])
  .ret)))))
theorem hd133 : Try.f133.body.map dec = some c133 := by kernel_rfl
theorem e133 {R : AV → AH → Prop} {h : AH} (x0 : AV) (H : h.wf → AI Try.prog c133 (RetQ Try.prog [.tmp 2] R) [x0, un, un, un, un, un, un, un, un, un, un, un, un, un, un, un, un, un, un, un, un, un, un, un, un, un, un, un, un, un, un, un, un, un, un, un, un, un, un, un, un, un, un, un, un, un, un, un, un, un, un, un, un, un, un, un, un, un, un, un, un, un, un, un, un, un, un, un, un, un, un, un, un, un] h) : AC Try.prog 133 [x0] h R :=
  AC_of' (rs := [.tmp 2]) Try.func133 (by kernel_rfl) hd133 Try.ntmps133 rfl H

/-- slices.Max[[]int,int] -/
def c107 : IC :=
  (.seq
  (.reg [
    ⟨some 2, .assign (.const (.int .i64 0)), none⟩])
  (.seq
  (.seq
  (.reg [
    ⟨some 5, .move (.tmp 0), none⟩,
    ⟨some 6, .call { callee := .builtin .len, args := #[.tmp 5], argTypes := #[29] }, none⟩,
    ⟨some 7, .binOp .lss 3 (.tmp 6) (.const (.int .i64 1)) 3, none⟩])
  (.cond (.tmp 7)
    (.reg [
      ⟨some 8, .makeInterface 9 (.const (.string { data := #[115, 108, 105, 99, 101, 115, 46, 77, 97, 120, 58, 32, 101, 109, 112, 116, 121, 32, 108, 105, 115, 116] })), none⟩,
      ⟨none, .panic (.tmp 8), none⟩])
    .skip))
  (.seq
  (.reg [
    ⟨some 9, .move (.tmp 0), none⟩,
    ⟨some 10, .indexAddr 29 (.tmp 9) (.const (.int .i64 0)), none⟩,
    ⟨some 11, .load 3 (.tmp 10), none⟩,
    ⟨some 3, .assign (.tmp 11), none⟩])
  (.seq
  (.seq
  (.reg [
    ⟨some 4, .assign (.const (.int .i64 1)), none⟩])
  (.block 0
  (.loop
    (.seq
    (.seq
    (.reg [
      ⟨some 12, .move (.tmp 4), none⟩,
      ⟨some 13, .move (.tmp 0), none⟩,
      ⟨some 14, .call { callee := .builtin .len, args := #[.tmp 13], argTypes := #[29] }, none⟩,
      ⟨some 15, .binOp .lss 3 (.tmp 12) (.tmp 14) 3, none⟩])
    (.cond (.tmp 15)
      .skip
      (.exit 0)))
    (.seq
    (.block 1
    (.reg [
      ⟨some 18, .move (.tmp 3), none⟩,
      ⟨some 19, .move (.tmp 0), none⟩,
      ⟨some 20, .move (.tmp 4), none⟩,
      ⟨some 21, .indexAddr 29 (.tmp 19) (.tmp 20), none⟩,
      ⟨some 22, .load 3 (.tmp 21), none⟩,
      ⟨some 23, .call { callee := .builtin .max, args := #[.tmp 18, .tmp 22], argTypes := #[3, 3] }, none⟩,
      ⟨some 3, .assign (.tmp 23), none⟩]))
    (.reg [
      ⟨some 16, .move (.tmp 4), none⟩,
      ⟨some 17, .binOp .add 3 (.tmp 16) (.const (.int .i64 1)) 3, none⟩,
      ⟨some 4, .assign (.tmp 17), none⟩]))))))
  (.seq
  (.reg [
    ⟨some 24, .move (.tmp 3), none⟩,
    ⟨some 2, .assign (.tmp 24), none⟩])
  .ret)))))
theorem hd107 : Try.f107.body.map dec = some c107 := by kernel_rfl
theorem e107 {R : AV → AH → Prop} {h : AH} (x0 : AV) (H : h.wf → AI Try.prog c107 (RetQ Try.prog [.tmp 2] R) [x0, un, un, un, un, un, un, un, un, un, un, un, un, un, un, un, un, un, un, un, un, un, un, un, un] h) : AC Try.prog 107 [x0] h R :=
  AC_of' (rs := [.tmp 2]) Try.func107 (by kernel_rfl) hd107 Try.ntmps107 rfl H

/-- impl.IsPlan$1 -/
def c134 : IC :=
  (.seq
  (.reg [
    ⟨some 2, .assign (.const (.bool false)), none⟩])
  (.seq
  (.reg [
    ⟨some 3, .move (.tmp 0), none⟩,
    ⟨some 4, .call { callee := .value (.func 107), args := #[.tmp 3], argTypes := #[29] }, none⟩,
    ⟨some 5, .binOp .gtr 3 (.tmp 4) (.const (.int .i64 1000000)) 3, none⟩,
    ⟨some 2, .assign (.tmp 5), none⟩])
  .ret))
theorem hd134 : Try.f134.body.map dec = some c134 := by kernel_rfl
theorem e134 {R : AV → AH → Prop} {h : AH} (x0 : AV) (H : h.wf → AI Try.prog c134 (RetQ Try.prog [.tmp 2] R) [x0, un, un, un, un, un] h) : AC Try.prog 134 [x0] h R :=
  AC_of' (rs := [.tmp 2]) Try.func134 (by kernel_rfl) hd134 Try.ntmps134 rfl H

/-- impl.IsPlan -/
def c81 : IC :=
  (.seq
  (.reg [
    ⟨some 1, .box 31 (.tmp 0), none⟩,
    ⟨some 2, .assign (.const (.bool false)), none⟩])
  (.seq
  (.reg [
    ⟨some 3, .call { callee := .value (.func 131), args := #[.tmp 1], argTypes := #[31] }, none⟩,
    ⟨some 4, .move (.tmp 3), none⟩,
    ⟨some 5, .call { callee := .value (.func 133), args := #[.tmp 1], argTypes := #[31] }, some (4, true)⟩,
    ⟨some 6, .call { callee := .value (.func 132), args := #[.tmp 5, .func 134], argTypes := #[39, 54] }, some (4, true)⟩,
    ⟨some 7, .unOp .not 4 (.tmp 6), some (4, true)⟩,
    ⟨some 8, .pick (.tmp 4) (.tmp 7) (.const (.bool false)), none⟩,
    ⟨some 2, .assign (.tmp 8), none⟩])
  .ret))
theorem hd81 : Try.f81.body.map dec = some c81 := by kernel_rfl
theorem e81 {R : AV → AH → Prop} {h : AH} (x0 : AV) (H : h.wf → AI Try.prog c81 (RetQ Try.prog [.tmp 2] R) [x0, un, un, un, un, un, un, un, un] h) : AC Try.prog 81 [x0] h R :=
  AC_of' (rs := [.tmp 2]) Try.func81 (by kernel_rfl) hd81 Try.ntmps81 rfl H

/-- impl.told -/
def c68 : IC :=
  (.seq
  (.reg [
    ⟨some 1, .box 31 (.tmp 0), none⟩,
    ⟨some 2, .alloc 31, none⟩,
    ⟨some 3, .assign (.const (.bool false)), none⟩])
  (.seq
  (.seq
  (.reg [
    ⟨some 4, .load 31 (.tmp 1), none⟩,
    ⟨some 5, .call { callee := .value (.func 81), args := #[.tmp 4], argTypes := #[31] }, none⟩,
    ⟨some 6, .unOp .not 4 (.tmp 5), none⟩])
  (.cond (.tmp 6)
    (.seq
    (.reg [
      ⟨some 7, .build 31 #[], none⟩,
      ⟨none, .store 31 (.tmp 2) (.tmp 7), none⟩,
      ⟨some 3, .assign (.const (.bool false)), none⟩])
    .ret)
    .skip))
  (.seq
  (.reg [
    ⟨some 8, .load 31 (.tmp 1), none⟩,
    ⟨none, .store 31 (.tmp 2) (.tmp 8), none⟩,
    ⟨some 3, .assign (.const (.bool true)), none⟩])
  .ret)))
theorem hd68 : Try.f68.body.map dec = some c68 := by kernel_rfl
theorem e68 {R : AV → AH → Prop} {h : AH} (x0 : AV) (H : h.wf → AI Try.prog c68 (RetQ Try.prog [.cell 2 31, .tmp 3] R) [x0, un, un, un, un, un, un, un, un] h) : AC Try.prog 68 [x0] h R :=
  AC_of' (rs := [.cell 2 31, .tmp 3]) Try.func68 (by kernel_rfl) hd68 Try.ntmps68 rfl H

/-- (*impl.maker).plan -/
def c69 : IC :=
  (.seq
  (.reg [
    ⟨some 4, .alloc 31, none⟩])
  (.seq
  (.reg [
    ⟨some 5, .move (.tmp 0), none⟩,
    ⟨some 6, .move (.tmp 1), none⟩,
    ⟨some 7, .nilCheck (.tmp 5), none⟩,
    ⟨some 8, .fieldAddr 97 (.tmp 7) 0, none⟩,
    ⟨some 9, .fieldAddr 31 (.tmp 8) 2, none⟩,
    ⟨none, .store 29 (.tmp 9) (.tmp 6), none⟩])
  (.seq
  (.reg [
    ⟨some 10, .move (.tmp 0), none⟩,
    ⟨some 11, .nilCheck (.tmp 10), none⟩,
    ⟨some 12, .fieldAddr 97 (.tmp 11) 0, none⟩,
    ⟨some 13, .load 31 (.tmp 12), none⟩,
    ⟨none, .store 31 (.tmp 4) (.tmp 13), none⟩])
  .ret)))
theorem hd69 : Try.f69.body.map dec = some c69 := by kernel_rfl
theorem e69 {R : AV → AH → Prop} {h : AH} (x0 x1 : AV) (H : h.wf → AI Try.prog c69 (RetQ Try.prog [.cell 4 31] R) [x0, x1, un, un, un, un, un, un, un, un, un, un, un, un] h) : AC Try.prog 69 [x0, x1] h R :=
  AC_of' (rs := [.cell 4 31]) Try.func69 (by kernel_rfl) hd69 Try.ntmps69 rfl H

noncomputable def rfa23_0 : Code := (rfAt Try.f23 0).1
def cfa23_0 : IC :=
  (.reg [
    ⟨some 8, .assign (.tmp 23), none⟩])
theorem hfa23_0 : dec rfa23_0 = cfa23_0 := by kernel_rfl
noncomputable def rfb23_0 : Code := (rfAt Try.f23 0).2
def cfb23_0 : IC :=
  (.block 1
  (.seq
  (.reg [
    ⟨some 24, .load 72 (.tmp 4), none⟩,
    ⟨some 25, .load 3 (.tmp 5), none⟩,
    ⟨some 26, .load 3 (.tmp 5), none⟩,
    ⟨some 27, .call { callee := .value (.func 67), args := #[.tmp 24, .tmp 25, .tmp 26], argTypes := #[72, 3, 3] }, none⟩,
    ⟨none, .store 3 (.tmp 5) (.tmp 27), none⟩])
  (.seq
  (.reg [
    ⟨some 28, .move (.tmp 8), none⟩,
    ⟨some 29, .binOp .eql 3 (.tmp 28) (.const (.int .i64 1)) 3, none⟩])
  (.cond (.tmp 29)
    (.reg [
      ⟨some 30, .load 72 (.tmp 4), none⟩,
      ⟨some 31, .load 3 (.tmp 5), none⟩,
      ⟨some 32, .call { callee := .value (.func 67), args := #[.tmp 30, .tmp 31, .const (.int .i64 0)], argTypes := #[72, 3, 3] }, none⟩,
      ⟨none, .store 3 (.tmp 5) (.tmp 32), none⟩])
    .skip))))
theorem hfb23_0 : dec rfb23_0 = cfb23_0 := by kernel_rfl
/-- impl.BinaryPlan -/
noncomputable def c23 : IC :=
  (.seq
  (.reg [
    ⟨some 2, .alloc 31, none⟩,
    ⟨some 3, .assign (.const (.bool false)), none⟩])
  (.seq
  (.seq
  (.reg [
    ⟨some 9, .move (.tmp 0), none⟩,
    ⟨some 10, .call { callee := .value (.func 61), args := #[.tmp 9], argTypes := #[3] }, none⟩,
    ⟨some 11, .unOp .not 4 (.tmp 10), none⟩])
  (.cond (.tmp 11)
    (.seq
    (.reg [
      ⟨some 12, .build 31 #[], none⟩,
      ⟨none, .store 31 (.tmp 2) (.tmp 12), none⟩,
      ⟨some 3, .assign (.const (.bool false)), none⟩])
    .ret)
    .skip))
  (.seq
  (.reg [
    ⟨some 13, .call { callee := .value (.func 64), args := #[.const (.int .i64 1)], argTypes := #[3] }, none⟩,
    ⟨some 4, .alloc 72, none⟩,
    ⟨some 5, .alloc 3, none⟩,
    ⟨none, .store 72 (.tmp 4) (.tmp 13), none⟩,
    ⟨none, .store 3 (.tmp 5) (.const (.int .i64 0)), none⟩])
  (.seq
  (.reg [
    ⟨some 14, .move (.tmp 0), none⟩,
    ⟨some 15, .call { callee := .value (.func 65), args := #[.tmp 14, .const (.int .i64 2)], argTypes := #[3, 3] }, none⟩,
    ⟨some 6, .assign (.tmp 15), none⟩])
  (.seq
  (.seq
  (.reg [
    ⟨some 16, .move (.tmp 6), none⟩,
    ⟨some 17, .move (.tmp 6), none⟩,
    ⟨some 18, .call { callee := .builtin .len, args := #[.tmp 17], argTypes := #[29] }, none⟩,
    ⟨some 19, .binOp .sub 3 (.tmp 18) (.const (.int .i64 1)) 3, none⟩,
    ⟨some 20, .slice 29 (.tmp 16) none (some (.tmp 19)) none, none⟩,
    ⟨some 21, .call { callee := .value (.func 66), args := #[.tmp 20], argTypes := #[29] }, none⟩])
  (.block 0
  (.raw (.rangeFunc (.tmp 21) #[22, 23] rfa23_0 rfb23_0))))
  (.seq
  (.reg [
    ⟨some 33, .load 72 (.tmp 4), none⟩,
    ⟨some 34, .load 3 (.tmp 5), none⟩,
    ⟨some 35, .buildSlice 29 1 #[(0, .tmp 34)], none⟩,
    ⟨some 36, .call { callee := .value (.func 69), args := #[.tmp 33, .tmp 35], argTypes := #[72, 29] }, none⟩,
    ⟨some 37, .call { callee := .value (.func 68), args := #[.tmp 36], argTypes := #[31] }, none⟩,
    ⟨some 38, .extract (.tmp 37) 0, none⟩,
    ⟨some 39, .extract (.tmp 37) 1, none⟩,
    ⟨none, .store 31 (.tmp 2) (.tmp 38), none⟩,
    ⟨some 3, .assign (.tmp 39), none⟩])
  .ret))))))
theorem hd23 : Try.f23.body.map dec = some c23 := by kernel_rfl
theorem e23 {R : AV → AH → Prop} {h : AH} (x0 : AV) (H : h.wf → LF Try.prog Try.f23 R h false [] c23 [x0, un, un, un, un, un, un, un, un, un, un, un, un, un, un, un, un, un, un, un, un, un, un, un, un, un, un, un, un, un, un, un, un, un, un, un, un, un, un, un]) : AC Try.prog 23 [x0] h R :=
  AC_ofF Try.func23 (by kernel_rfl) hd23 Try.ntmps23 H

/-- impl.BinaryCost -/
def c16 : IC :=
  (.seq
  (.reg [
    ⟨some 2, .assign (.const (.int .i64 0)), none⟩,
    ⟨some 3, .assign (.const (.bool false)), none⟩])
  (.seq
  (.reg [
    ⟨some 7, .move (.tmp 0), none⟩,
    ⟨some 8, .call { callee := .value (.func 23), args := #[.tmp 7], argTypes := #[3] }, none⟩,
    ⟨some 6, .move (.tmp 8), none⟩,
    ⟨some 9, .extract (.tmp 6) 0, none⟩,
    ⟨some 10, .extract (.tmp 6) 1, none⟩,
    ⟨some 4, .alloc 31, none⟩,
    ⟨none, .store 31 (.tmp 4) (.tmp 9), none⟩,
    ⟨some 5, .assign (.tmp 10), none⟩])
  (.seq
  (.reg [
    ⟨some 11, .fieldAddr 31 (.tmp 4) 1, none⟩,
    ⟨some 12, .load 28 (.tmp 11), none⟩,
    ⟨some 13, .call { callee := .builtin .len, args := #[.tmp 12], argTypes := #[28] }, none⟩,
    ⟨some 14, .move (.tmp 5), none⟩,
    ⟨some 2, .assign (.tmp 13), none⟩,
    ⟨some 3, .assign (.tmp 14), none⟩])
  .ret)))
theorem hd16 : Try.f16.body.map dec = some c16 := by kernel_rfl
theorem e16 {R : AV → AH → Prop} {h : AH} (x0 : AV) (H : h.wf → AI Try.prog c16 (RetQ Try.prog [.tmp 2, .tmp 3] R) [x0, un, un, un, un, un, un, un, un, un, un, un, un, un, un] h) : AC Try.prog 16 [x0] h R :=
  AC_of' (rs := [.tmp 2, .tmp 3]) Try.func16 (by kernel_rfl) hd16 Try.ntmps16 rfl H

/-- laws.FnExactBinaryCost -/
def c3 : IC :=
  (.seq
  (.reg [
    ⟨some 2, .assign (.const (.bool false)), none⟩])
  (.seq
  (.reg [
    ⟨some 8, .move (.tmp 0), none⟩,
    ⟨some 9, .call { callee := .value (.func 15), args := #[.tmp 8], argTypes := #[3] }, none⟩,
    ⟨some 7, .move (.tmp 9), none⟩,
    ⟨some 10, .extract (.tmp 7) 0, none⟩,
    ⟨some 11, .extract (.tmp 7) 1, none⟩,
    ⟨some 3, .assign (.tmp 10), none⟩,
    ⟨some 4, .assign (.tmp 11), none⟩])
  (.seq
  (.reg [
    ⟨some 13, .move (.tmp 0), none⟩,
    ⟨some 14, .call { callee := .value (.func 16), args := #[.tmp 13], argTypes := #[3] }, none⟩,
    ⟨some 12, .move (.tmp 14), none⟩,
    ⟨some 15, .extract (.tmp 12) 0, none⟩,
    ⟨some 16, .extract (.tmp 12) 1, none⟩,
    ⟨some 5, .assign (.tmp 15), none⟩,
    ⟨some 6, .assign (.tmp 16), none⟩])
  (.seq
  (.seq
  (.reg [
    ⟨some 17, .move (.tmp 5), none⟩,
    ⟨some 18, .move (.tmp 3), none⟩,
    ⟨some 19, .binOp .neq 3 (.tmp 17) (.tmp 18) 3, none⟩,
    ⟨some 20, .move (.tmp 19), none⟩,
    ⟨some 21, .move (.tmp 6), some (20, false)⟩,
    ⟨some 22, .move (.tmp 4), some (20, false)⟩,
    ⟨some 23, .binOp .neq 4 (.tmp 21) (.tmp 22) 4, some (20, false)⟩,
    ⟨some 24, .pick (.tmp 20) (.const (.bool true)) (.tmp 23), none⟩])
  (.cond (.tmp 24)
    (.seq
    (.reg [
      ⟨some 2, .assign (.const (.bool false)), none⟩])
    .ret)
    .skip))
  (.seq
  (.reg [
    ⟨some 2, .assign (.const (.bool true)), none⟩])
  .ret)))))
theorem hd3 : Try.f3.body.map dec = some c3 := by kernel_rfl
theorem e3 {R : AV → AH → Prop} {h : AH} (x0 : AV) (H : h.wf → AI Try.prog c3 (RetQ Try.prog [.tmp 2] R) [x0, un, un, un, un, un, un, un, un, un, un, un, un, un, un, un, un, un, un, un, un, un, un, un, un] h) : AC Try.prog 3 [x0] h R :=
  AC_of' (rs := [.tmp 2]) Try.func3 (by kernel_rfl) hd3 Try.ntmps3 rfl H

end Go.Proofs.Ytdcliofmdlhmaaa
