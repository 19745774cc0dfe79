/- The short forms of the functions' code, and facts on types. -/
import Derived.Test.YtdcliofmdlhmaaaProg
import Derived.Test.YtdcliofmdlhmaaaD2
namespace Go.Proofs.Ytdcliofmdlhmaaa
open Go.AL
set_option linter.unusedVariables false
theorem sz0 : szT Try.prog 0 = some 1 := by kernel_rfl
theorem by0 : byT Try.prog 0 = some 0 := by kernel_rfl
theorem ag0 : aggT Try.prog 0 = some false := by kernel_rfl
instance jsz0 : Tsz Try.prog 0 1 := ⟨sz0⟩
instance jby0 : Tby Try.prog 0 0 := ⟨by0⟩
instance jag0 : Tag Try.prog 0 false := ⟨ag0⟩
theorem sz1 : szT Try.prog 1 = some 1 := by kernel_rfl
theorem by1 : byT Try.prog 1 = some 8 := by kernel_rfl
theorem ag1 : aggT Try.prog 1 = some false := by kernel_rfl
instance jsz1 : Tsz Try.prog 1 1 := ⟨sz1⟩
instance jby1 : Tby Try.prog 1 8 := ⟨by1⟩
instance jag1 : Tag Try.prog 1 false := ⟨ag1⟩
theorem ze1 : zeroA Try.prog 1 = some .nf := by kernel_rfl
instance jze1 : Tze Try.prog 1 (.nf) := ⟨ze1⟩
theorem sz2 : szT Try.prog 2 = some 1 := by kernel_rfl
theorem by2 : byT Try.prog 2 = some 8 := by kernel_rfl
theorem ag2 : aggT Try.prog 2 = some false := by kernel_rfl
instance jsz2 : Tsz Try.prog 2 1 := ⟨sz2⟩
instance jby2 : Tby Try.prog 2 8 := ⟨by2⟩
instance jag2 : Tag Try.prog 2 false := ⟨ag2⟩
instance jik2 : Tik Try.prog 2 .i64 := ⟨Try.underlying2⟩
theorem ze2 : zeroA Try.prog 2 = some (.i .i64 0) := by kernel_rfl
instance jze2 : Tze Try.prog 2 (.i .i64 0) := ⟨ze2⟩
theorem sz3 : szT Try.prog 3 = some 1 := by kernel_rfl
theorem by3 : byT Try.prog 3 = some 8 := by kernel_rfl
theorem ag3 : aggT Try.prog 3 = some false := by kernel_rfl
instance jsz3 : Tsz Try.prog 3 1 := ⟨sz3⟩
instance jby3 : Tby Try.prog 3 8 := ⟨by3⟩
instance jag3 : Tag Try.prog 3 false := ⟨ag3⟩
instance jik3 : Tik Try.prog 3 .i64 := ⟨Try.underlying3⟩
theorem ze3 : zeroA Try.prog 3 = some (.i .i64 0) := by kernel_rfl
instance jze3 : Tze Try.prog 3 (.i .i64 0) := ⟨ze3⟩
theorem sz4 : szT Try.prog 4 = some 1 := by kernel_rfl
theorem by4 : byT Try.prog 4 = some 1 := by kernel_rfl
theorem ag4 : aggT Try.prog 4 = some false := by kernel_rfl
instance jsz4 : Tsz Try.prog 4 1 := ⟨sz4⟩
instance jby4 : Tby Try.prog 4 1 := ⟨by4⟩
instance jag4 : Tag Try.prog 4 false := ⟨ag4⟩
instance jbo4 : Tbo Try.prog 4 := ⟨Try.underlying4⟩
theorem ze4 : zeroA Try.prog 4 = some (.b false) := by kernel_rfl
instance jze4 : Tze Try.prog 4 (.b false) := ⟨ze4⟩
theorem sz5 : szT Try.prog 5 = some 1 := by kernel_rfl
theorem by5 : byT Try.prog 5 = some 1 := by kernel_rfl
theorem ag5 : aggT Try.prog 5 = some false := by kernel_rfl
instance jsz5 : Tsz Try.prog 5 1 := ⟨sz5⟩
instance jby5 : Tby Try.prog 5 1 := ⟨by5⟩
instance jag5 : Tag Try.prog 5 false := ⟨ag5⟩
instance jik5 : Tik Try.prog 5 .u8 := ⟨Try.underlying5⟩
theorem ze5 : zeroA Try.prog 5 = some (.i .u8 0) := by kernel_rfl
instance jze5 : Tze Try.prog 5 (.i .u8 0) := ⟨ze5⟩
theorem sz6 : szT Try.prog 6 = some 1 := by kernel_rfl
theorem by6 : byT Try.prog 6 = some 1 := by kernel_rfl
theorem ag6 : aggT Try.prog 6 = some false := by kernel_rfl
instance jsz6 : Tsz Try.prog 6 1 := ⟨sz6⟩
instance jby6 : Tby Try.prog 6 1 := ⟨by6⟩
instance jag6 : Tag Try.prog 6 false := ⟨ag6⟩
instance jik6 : Tik Try.prog 6 .u8 := ⟨Try.underlying6⟩
theorem ze6 : zeroA Try.prog 6 = some (.i .u8 0) := by kernel_rfl
instance jze6 : Tze Try.prog 6 (.i .u8 0) := ⟨ze6⟩
theorem sz24 : szT Try.prog 24 = some 1 := by kernel_rfl
theorem by24 : byT Try.prog 24 = some 8 := by kernel_rfl
theorem ag24 : aggT Try.prog 24 = some false := by kernel_rfl
instance jsz24 : Tsz Try.prog 24 1 := ⟨sz24⟩
instance jby24 : Tby Try.prog 24 8 := ⟨by24⟩
instance jag24 : Tag Try.prog 24 false := ⟨ag24⟩
theorem ze24 : zeroA Try.prog 24 = some .nf := by kernel_rfl
instance jze24 : Tze Try.prog 24 (.nf) := ⟨ze24⟩
theorem sz25 : szT Try.prog 25 = some 1 := by kernel_rfl
theorem by25 : byT Try.prog 25 = some 24 := by kernel_rfl
theorem ag25 : aggT Try.prog 25 = some false := by kernel_rfl
instance jsz25 : Tsz Try.prog 25 1 := ⟨sz25⟩
instance jby25 : Tby Try.prog 25 24 := ⟨by25⟩
instance jag25 : Tag Try.prog 25 false := ⟨ag25⟩
instance jsl25 : Tsl Try.prog 25 5 := ⟨Try.underlying25⟩
theorem ze25 : zeroA Try.prog 25 = some .ns := by kernel_rfl
instance jze25 : Tze Try.prog 25 (.ns) := ⟨ze25⟩
theorem sz28 : szT Try.prog 28 = some 1 := by kernel_rfl
theorem by28 : byT Try.prog 28 = some 24 := by kernel_rfl
theorem ag28 : aggT Try.prog 28 = some false := by kernel_rfl
instance jsz28 : Tsz Try.prog 28 1 := ⟨sz28⟩
instance jby28 : Tby Try.prog 28 24 := ⟨by28⟩
instance jag28 : Tag Try.prog 28 false := ⟨ag28⟩
instance jsl28 : Tsl Try.prog 28 108 := ⟨Try.underlying28⟩
theorem ze28 : zeroA Try.prog 28 = some .ns := by kernel_rfl
instance jze28 : Tze Try.prog 28 (.ns) := ⟨ze28⟩
theorem sz29 : szT Try.prog 29 = some 1 := by kernel_rfl
theorem by29 : byT Try.prog 29 = some 24 := by kernel_rfl
theorem ag29 : aggT Try.prog 29 = some false := by kernel_rfl
instance jsz29 : Tsz Try.prog 29 1 := ⟨sz29⟩
instance jby29 : Tby Try.prog 29 24 := ⟨by29⟩
instance jag29 : Tag Try.prog 29 false := ⟨ag29⟩
instance jsl29 : Tsl Try.prog 29 3 := ⟨Try.underlying29⟩
theorem ze29 : zeroA Try.prog 29 = some .ns := by kernel_rfl
instance jze29 : Tze Try.prog 29 (.ns) := ⟨ze29⟩
theorem sz31 : szT Try.prog 31 = some 3 := by kernel_rfl
theorem by31 : byT Try.prog 31 = some 56 := by kernel_rfl
theorem ag31 : aggT Try.prog 31 = some true := by kernel_rfl
instance jsz31 : Tsz Try.prog 31 3 := ⟨sz31⟩
instance jby31 : Tby Try.prog 31 56 := ⟨by31⟩
instance jag31 : Tag Try.prog 31 true := ⟨ag31⟩
theorem ze31 : zeroA Try.prog 31 = some (.agg [(.i .i64 0), .ns, .ns]) := by kernel_rfl
instance jze31 : Tze Try.prog 31 (.agg [(.i .i64 0), .ns, .ns]) := ⟨ze31⟩
theorem fl31_0 : fldA Try.prog 31 0 = some (0, 1, false) := by kernel_rfl
instance jfl31_0 : Tfl Try.prog 31 0 0 1 false := ⟨fl31_0⟩
theorem fl31_1 : fldA Try.prog 31 1 = some (1, 1, false) := by kernel_rfl
instance jfl31_1 : Tfl Try.prog 31 1 1 1 false := ⟨fl31_1⟩
theorem fl31_2 : fldA Try.prog 31 2 = some (2, 1, false) := by kernel_rfl
instance jfl31_2 : Tfl Try.prog 31 2 2 1 false := ⟨fl31_2⟩
theorem pa31 : plA Try.prog 31 = some [(0, 1), (1, 1), (2, 1)] := by kernel_rfl
instance jpl31 : Tpl Try.prog 31 [(0, 1), (1, 1), (2, 1)] := ⟨pa31⟩
theorem sz39 : szT Try.prog 39 = some 1 := by kernel_rfl
theorem by39 : byT Try.prog 39 = some 24 := by kernel_rfl
theorem ag39 : aggT Try.prog 39 = some false := by kernel_rfl
instance jsz39 : Tsz Try.prog 39 1 := ⟨sz39⟩
instance jby39 : Tby Try.prog 39 24 := ⟨by39⟩
instance jag39 : Tag Try.prog 39 false := ⟨ag39⟩
instance jsl39 : Tsl Try.prog 39 29 := ⟨Try.underlying39⟩
theorem ze39 : zeroA Try.prog 39 = some .ns := by kernel_rfl
instance jze39 : Tze Try.prog 39 (.ns) := ⟨ze39⟩
theorem sz54 : szT Try.prog 54 = some 1 := by kernel_rfl
theorem by54 : byT Try.prog 54 = some 8 := by kernel_rfl
theorem ag54 : aggT Try.prog 54 = some false := by kernel_rfl
instance jsz54 : Tsz Try.prog 54 1 := ⟨sz54⟩
instance jby54 : Tby Try.prog 54 8 := ⟨by54⟩
instance jag54 : Tag Try.prog 54 false := ⟨ag54⟩
theorem ze54 : zeroA Try.prog 54 = some .nf := by kernel_rfl
instance jze54 : Tze Try.prog 54 (.nf) := ⟨ze54⟩
theorem sz66 : szT Try.prog 66 = some 1 := by kernel_rfl
theorem by66 : byT Try.prog 66 = some 8 := by kernel_rfl
theorem ag66 : aggT Try.prog 66 = some false := by kernel_rfl
instance jsz66 : Tsz Try.prog 66 1 := ⟨sz66⟩
instance jby66 : Tby Try.prog 66 8 := ⟨by66⟩
instance jag66 : Tag Try.prog 66 false := ⟨ag66⟩
theorem ze66 : zeroA Try.prog 66 = some .np := by kernel_rfl
instance jze66 : Tze Try.prog 66 (.np) := ⟨ze66⟩
theorem sz67 : szT Try.prog 67 = some 1 := by kernel_rfl
theorem by67 : byT Try.prog 67 = some 8 := by kernel_rfl
theorem ag67 : aggT Try.prog 67 = some false := by kernel_rfl
instance jsz67 : Tsz Try.prog 67 1 := ⟨sz67⟩
instance jby67 : Tby Try.prog 67 8 := ⟨by67⟩
instance jag67 : Tag Try.prog 67 false := ⟨ag67⟩
instance jik67 : Tik Try.prog 67 .u64 := ⟨Try.underlying67⟩
theorem ze67 : zeroA Try.prog 67 = some (.i .u64 0) := by kernel_rfl
instance jze67 : Tze Try.prog 67 (.i .u64 0) := ⟨ze67⟩
theorem sz69 : szT Try.prog 69 = some 3 := by kernel_rfl
theorem by69 : byT Try.prog 69 = some 40 := by kernel_rfl
theorem ag69 : aggT Try.prog 69 = some true := by kernel_rfl
instance jsz69 : Tsz Try.prog 69 3 := ⟨sz69⟩
instance jby69 : Tby Try.prog 69 40 := ⟨by69⟩
instance jag69 : Tag Try.prog 69 true := ⟨ag69⟩
theorem ze69 : zeroA Try.prog 69 = some (.agg [.ns, (.i .i64 0), (.i .u64 0)]) := by kernel_rfl
instance jze69 : Tze Try.prog 69 (.agg [.ns, (.i .i64 0), (.i .u64 0)]) := ⟨ze69⟩
theorem fl69_0 : fldA Try.prog 69 0 = some (0, 1, false) := by kernel_rfl
instance jfl69_0 : Tfl Try.prog 69 0 0 1 false := ⟨fl69_0⟩
theorem fl69_1 : fldA Try.prog 69 1 = some (1, 1, false) := by kernel_rfl
instance jfl69_1 : Tfl Try.prog 69 1 1 1 false := ⟨fl69_1⟩
theorem fl69_2 : fldA Try.prog 69 2 = some (2, 1, false) := by kernel_rfl
instance jfl69_2 : Tfl Try.prog 69 2 2 1 false := ⟨fl69_2⟩
theorem pa69 : plA Try.prog 69 = some [(0, 1), (1, 1), (2, 1)] := by kernel_rfl
instance jpl69 : Tpl Try.prog 69 [(0, 1), (1, 1), (2, 1)] := ⟨pa69⟩
theorem sz87 : szT Try.prog 87 = some 1 := by kernel_rfl
theorem by87 : byT Try.prog 87 = some 8 := by kernel_rfl
theorem ag87 : aggT Try.prog 87 = some false := by kernel_rfl
instance jsz87 : Tsz Try.prog 87 1 := ⟨sz87⟩
instance jby87 : Tby Try.prog 87 8 := ⟨by87⟩
instance jag87 : Tag Try.prog 87 false := ⟨ag87⟩
theorem ze87 : zeroA Try.prog 87 = some .np := by kernel_rfl
instance jze87 : Tze Try.prog 87 (.np) := ⟨ze87⟩
theorem sz108 : szT Try.prog 108 = some 2 := by kernel_rfl
theorem by108 : byT Try.prog 108 = some 16 := by kernel_rfl
theorem ag108 : aggT Try.prog 108 = some true := by kernel_rfl
instance jsz108 : Tsz Try.prog 108 2 := ⟨sz108⟩
instance jby108 : Tby Try.prog 108 16 := ⟨by108⟩
instance jag108 : Tag Try.prog 108 true := ⟨ag108⟩
theorem ze108 : zeroA Try.prog 108 = some (.agg [(.i .i64 0), (.i .i64 0)]) := by kernel_rfl
instance jze108 : Tze Try.prog 108 (.agg [(.i .i64 0), (.i .i64 0)]) := ⟨ze108⟩
theorem fl108_0 : fldA Try.prog 108 0 = some (0, 1, false) := by kernel_rfl
instance jfl108_0 : Tfl Try.prog 108 0 0 1 false := ⟨fl108_0⟩
theorem fl108_1 : fldA Try.prog 108 1 = some (1, 1, false) := by kernel_rfl
instance jfl108_1 : Tfl Try.prog 108 1 1 1 false := ⟨fl108_1⟩
theorem pa108 : plA Try.prog 108 = some [(0, 1), (1, 1)] := by kernel_rfl
instance jpl108 : Tpl Try.prog 108 [(0, 1), (1, 1)] := ⟨pa108⟩

/-- laws.big -/
def c19 : IC :=
  (.seq
  (.reg [
    ⟨some 4, .assign (.const (.bool false)), none⟩])
  (.seq
  (.reg [
    ⟨some 5, .move (.tmp 0), none⟩,
    ⟨some 6, .call { callee := .builtin .len, args := #[.tmp 5], argTypes := #[25] }, none⟩,
    ⟨some 7, .binOp .gtr 3 (.tmp 6) (.const (.int .i64 1048576)) 3, none⟩,
    ⟨some 8, .move (.tmp 7), none⟩,
    ⟨some 9, .move (.tmp 1), some (8, false)⟩,
    ⟨some 10, .call { callee := .builtin .len, args := #[.tmp 9], argTypes := #[25] }, some (8, false)⟩,
    ⟨some 11, .move (.tmp 0), some (8, false)⟩,
    ⟨some 12, .call { callee := .builtin .len, args := #[.tmp 11], argTypes := #[25] }, some (8, false)⟩,
    ⟨some 13, .binOp .sub 3 (.const (.int .i64 1048576)) (.tmp 12) 3, some (8, false)⟩,
    ⟨some 14, .binOp .gtr 3 (.tmp 10) (.tmp 13) 3, some (8, false)⟩,
    ⟨some 15, .pick (.tmp 8) (.const (.bool true)) (.tmp 14), none⟩,
    ⟨some 4, .assign (.tmp 15), none⟩])
  .ret))
theorem hd19 : Try.f19.body.map dec = some c19 := by kernel_rfl
theorem e19 {R : AV → AH → Prop} {h : AH} (x0 x1 : AV) (H : h.wf → AI Try.prog c19 (RetQ Try.prog [.tmp 4] R) [x0, x1, un, un, un, un, un, un, un, un, un, un, un, un, un, un] h) : AC Try.prog 19 [x0, x1] h R :=
  AC_of' (rs := [.tmp 4]) Try.func19 (by kernel_rfl) hd19 Try.ntmps19 rfl H

noncomputable def rg130_0 : Array Oper := rawAt Try.f130 0
noncomputable def rg130_1 : Array Oper := rawAt Try.f130 1
noncomputable def rg130_2 : Array Oper := rawAt Try.f130 2
/-- (*spec.l1Cur).next -/
noncomputable def c130 : IC :=
  (.seq
  (.reg [
    ⟨some 2, .assign (.const (.int .i64 0)), none⟩])
  (.seq
  (.reg [
    ⟨some 3, .assign (.const (.int .i64 0)), none⟩])
  (.seq
  (.seq
  (.raw (.region 2 rg130_0 true))
  (.cond (.tmp 13)
    (.raw (.region 3 rg130_1 true))
    .skip))
  (.seq
  (.reg [
    ⟨some 25, .move (.tmp 0), none⟩,
    ⟨some 26, .nilCheck (.tmp 25), none⟩,
    ⟨some 27, .fieldAddr 69 (.tmp 26) 1, none⟩,
    ⟨some 28, .load 3 (.tmp 27), none⟩,
    ⟨some 29, .binOp .add 3 (.tmp 28) (.const (.int .i64 1)) 3, none⟩,
    ⟨some 30, .nilCheck (.tmp 25), none⟩,
    ⟨some 31, .fieldAddr 69 (.tmp 30) 1, none⟩,
    ⟨none, .store 3 (.tmp 31) (.tmp 29), none⟩])
  (.seq
  (.reg [
    ⟨some 32, .move (.tmp 0), none⟩,
    ⟨some 33, .move (.tmp 0), none⟩,
    ⟨some 34, .nilCheck (.tmp 33), none⟩,
    ⟨some 35, .fieldAddr 69 (.tmp 34) 2, none⟩,
    ⟨some 36, .load 67 (.tmp 35), none⟩,
    ⟨some 37, .binOp .mul 67 (.tmp 36) (.const (.int .u64 6364136223846793005)) 67, none⟩,
    ⟨some 38, .move (.tmp 3), none⟩,
    ⟨some 39, .convert 3 67 (.tmp 38), none⟩,
    ⟨some 40, .binOp .add 67 (.tmp 37) (.tmp 39) 67, none⟩,
    ⟨some 41, .binOp .add 67 (.tmp 40) (.const (.int .u64 1442695040888963407)) 67, none⟩,
    ⟨some 42, .nilCheck (.tmp 32), none⟩,
    ⟨some 43, .fieldAddr 69 (.tmp 42) 2, none⟩,
    ⟨none, .store 67 (.tmp 43) (.tmp 41), none⟩])
  (.seq
  (.seq
  (.raw (.region 6 rg130_2 true))
  (.cond (.tmp 53)
    (.seq
    (.reg [
      ⟨some 54, .move (.tmp 3), none⟩,
      ⟨some 2, .assign (.tmp 54), none⟩])
    .ret)
    .skip))
  (.seq
  (.reg [
    ⟨some 55, .move (.tmp 0), none⟩,
    ⟨some 56, .nilCheck (.tmp 55), none⟩,
    ⟨some 57, .fieldAddr 69 (.tmp 56) 2, none⟩,
    ⟨some 58, .load 67 (.tmp 57), none⟩,
    ⟨some 59, .binOp .shr 67 (.tmp 58) (.const (.int .u64 40)) 105, none⟩,
    ⟨some 60, .binOp .and 67 (.tmp 59) (.const (.int .u64 255)) 67, none⟩,
    ⟨some 61, .convert 67 3 (.tmp 60), none⟩,
    ⟨some 2, .assign (.tmp 61), none⟩])
  .ret)))))))
theorem hd130 : Try.f130.body.map dec = some c130 := by kernel_rfl
theorem e130 {R : AV → AH → Prop} {h : AH} (x0 : AV) (H : h.wf → AI Try.prog c130 (RetQ Try.prog [.tmp 2] R) [x0, un, un, un, un, un, un, un, un, un, un, un, un, un, un, un, un, un, un, un, un, un, un, un, un, un, un, un, un, un, un, un, un, un, un, un, un, un, un, un, un, un, un, un, un, un, un, un, un, un, un, un, un, un, un, un, un, un, un, un, un, un] h) : AC Try.prog 130 [x0] h R :=
  AC_of' (rs := [.tmp 2]) Try.func130 (by kernel_rfl) hd130 Try.ntmps130 rfl H
theorem dz130_0 {h0 : AH} {L : List It} {Q : Exit → List AV → List It → Prop} {a : List AV} {id : Nat} (H : LX Try.prog ⟨[], []⟩ h0 L L (.c (⟨some 4, .move (.tmp 0), none⟩, .p) <| .c (⟨some 5, .nilCheck (.tmp 4), none⟩, .p) <| .c (⟨some 6, .fieldAddr 69 (.tmp 5) 1, none⟩, .p) <| .c (⟨some 7, .load 3 (.tmp 6), none⟩, .l) <| .c (⟨some 8, .move (.tmp 0), none⟩, .p) <| .c (⟨some 9, .nilCheck (.tmp 8), none⟩, .p) <| .c (⟨some 10, .fieldAddr 69 (.tmp 9) 0, none⟩, .p) <| .c (⟨some 11, .load 25 (.tmp 10), none⟩, .l) <| .c (⟨some 12, .call { callee := .builtin .len, args := #[.tmp 11], argTypes := #[25] }, none⟩, .p) <| .c (⟨some 13, .binOp .lss 3 (.tmp 7) (.tmp 12) 3, none⟩, .p) <| .n) Q a) : LI Try.prog h0 L (.raw (.region id rg130_0 true)) Q a :=
  LI_draw (.c (0, .p) <| .c (1, .p) <| .c (2, .p) <| .c (3, .l) <| .c (4, .p) <| .c (5, .p) <| .c (6, .p) <| .c (7, .l) <| .c (8, .p) <| .c (9, .p) <| .n) [] (by kernel_rfl) (by kernel_rfl) (by kernel_rfl) H
theorem dr130_0 (m : Nat) {Q : Exit → List AV → AH → Prop} {a : List AV} {h : AH} {id : Nat} (H : AX Try.prog m h [(⟨some 4, .move (.tmp 0), none⟩, true),
  (⟨some 5, .nilCheck (.tmp 4), none⟩, true),
  (⟨some 6, .fieldAddr 69 (.tmp 5) 1, none⟩, true),
  (⟨some 7, .load 3 (.tmp 6), none⟩, true),
  (⟨some 8, .move (.tmp 0), none⟩, true),
  (⟨some 9, .nilCheck (.tmp 8), none⟩, true),
  (⟨some 10, .fieldAddr 69 (.tmp 9) 0, none⟩, true),
  (⟨some 11, .load 25 (.tmp 10), none⟩, true),
  (⟨some 12, .call { callee := .builtin .len, args := #[.tmp 11], argTypes := #[25] }, none⟩, true),
  (⟨some 13, .binOp .lss 3 (.tmp 7) (.tmp 12) 3, none⟩, true)] (fun a' h' => Q .normal a' h') a h) : AI Try.prog (.raw (.region id rg130_0 true)) Q a h :=
  AI_draw [(0, true), (1, true), (2, true), (3, true), (4, true), (5, true), (6, true), (7, true), (8, true), (9, true)] m (by kernel_rfl) (by kernel_rfl) (by kernel_rfl) H
theorem dz130_1 {h0 : AH} {L : List It} {Q : Exit → List AV → List It → Prop} {a : List AV} {id : Nat} (H : LX Try.prog ⟨[], []⟩ h0 L L (.c (⟨some 14, .move (.tmp 0), none⟩, .p) <| .c (⟨some 15, .nilCheck (.tmp 14), none⟩, .p) <| .c (⟨some 16, .fieldAddr 69 (.tmp 15) 0, none⟩, .p) <| .c (⟨some 17, .load 25 (.tmp 16), none⟩, .l) <| .c (⟨some 18, .move (.tmp 0), none⟩, .p) <| .c (⟨some 19, .nilCheck (.tmp 18), none⟩, .p) <| .c (⟨some 20, .fieldAddr 69 (.tmp 19) 1, none⟩, .p) <| .c (⟨some 21, .load 3 (.tmp 20), none⟩, .l) <| .c (⟨some 22, .indexAddr 25 (.tmp 17) (.tmp 21), none⟩, .p) <| .c (⟨some 23, .load 5 (.tmp 22), none⟩, .l) <| .c (⟨some 24, .convert 5 3 (.tmp 23), none⟩, .p) <| .c (⟨some 3, .assign (.tmp 24), none⟩, .p) <| .n) Q a) : LI Try.prog h0 L (.raw (.region id rg130_1 true)) Q a :=
  LI_draw (.c (0, .p) <| .c (1, .p) <| .c (2, .p) <| .c (3, .l) <| .c (4, .p) <| .c (5, .p) <| .c (6, .p) <| .c (7, .l) <| .c (8, .p) <| .c (9, .l) <| .c (10, .p) <| .c (11, .p) <| .n) [] (by kernel_rfl) (by kernel_rfl) (by kernel_rfl) H
theorem dr130_1 (m : Nat) {Q : Exit → List AV → AH → Prop} {a : List AV} {h : AH} {id : Nat} (H : AX Try.prog m h [(⟨some 14, .move (.tmp 0), none⟩, true),
  (⟨some 15, .nilCheck (.tmp 14), none⟩, true),
  (⟨some 16, .fieldAddr 69 (.tmp 15) 0, none⟩, true),
  (⟨some 17, .load 25 (.tmp 16), none⟩, true),
  (⟨some 18, .move (.tmp 0), none⟩, true),
  (⟨some 19, .nilCheck (.tmp 18), none⟩, true),
  (⟨some 20, .fieldAddr 69 (.tmp 19) 1, none⟩, true),
  (⟨some 21, .load 3 (.tmp 20), none⟩, true),
  (⟨some 22, .indexAddr 25 (.tmp 17) (.tmp 21), none⟩, true),
  (⟨some 23, .load 5 (.tmp 22), none⟩, true),
  (⟨some 24, .convert 5 3 (.tmp 23), none⟩, true),
  (⟨some 3, .assign (.tmp 24), none⟩, true)] (fun a' h' => Q .normal a' h') a h) : AI Try.prog (.raw (.region id rg130_1 true)) Q a h :=
  AI_draw [(0, true), (1, true), (2, true), (3, true), (4, true), (5, true), (6, true), (7, true), (8, true), (9, true), (10, true), (11, true)] m (by kernel_rfl) (by kernel_rfl) (by kernel_rfl) H
theorem dz130_2 {h0 : AH} {L : List It} {Q : Exit → List AV → List It → Prop} {a : List AV} {id : Nat} (H : LX Try.prog ⟨[], []⟩ h0 L L (.c (⟨some 44, .move (.tmp 0), none⟩, .p) <| .c (⟨some 45, .nilCheck (.tmp 44), none⟩, .p) <| .c (⟨some 46, .fieldAddr 69 (.tmp 45) 1, none⟩, .p) <| .c (⟨some 47, .load 3 (.tmp 46), none⟩, .l) <| .c (⟨some 48, .move (.tmp 0), none⟩, .p) <| .c (⟨some 49, .nilCheck (.tmp 48), none⟩, .p) <| .c (⟨some 50, .fieldAddr 69 (.tmp 49) 0, none⟩, .p) <| .c (⟨some 51, .load 25 (.tmp 50), none⟩, .l) <| .c (⟨some 52, .call { callee := .builtin .len, args := #[.tmp 51], argTypes := #[25] }, none⟩, .p) <| .c (⟨some 53, .binOp .leq 3 (.tmp 47) (.tmp 52) 3, none⟩, .p) <| .n) Q a) : LI Try.prog h0 L (.raw (.region id rg130_2 true)) Q a :=
  LI_draw (.c (0, .p) <| .c (1, .p) <| .c (2, .p) <| .c (3, .l) <| .c (4, .p) <| .c (5, .p) <| .c (6, .p) <| .c (7, .l) <| .c (8, .p) <| .c (9, .p) <| .n) [] (by kernel_rfl) (by kernel_rfl) (by kernel_rfl) H
theorem dr130_2 (m : Nat) {Q : Exit → List AV → AH → Prop} {a : List AV} {h : AH} {id : Nat} (H : AX Try.prog m h [(⟨some 44, .move (.tmp 0), none⟩, true),
  (⟨some 45, .nilCheck (.tmp 44), none⟩, true),
  (⟨some 46, .fieldAddr 69 (.tmp 45) 1, none⟩, true),
  (⟨some 47, .load 3 (.tmp 46), none⟩, true),
  (⟨some 48, .move (.tmp 0), none⟩, true),
  (⟨some 49, .nilCheck (.tmp 48), none⟩, true),
  (⟨some 50, .fieldAddr 69 (.tmp 49) 0, none⟩, true),
  (⟨some 51, .load 25 (.tmp 50), none⟩, true),
  (⟨some 52, .call { callee := .builtin .len, args := #[.tmp 51], argTypes := #[25] }, none⟩, true),
  (⟨some 53, .binOp .leq 3 (.tmp 47) (.tmp 52) 3, none⟩, true)] (fun a' h' => Q .normal a' h') a h) : AI Try.prog (.raw (.region id rg130_2 true)) Q a h :=
  AI_draw [(0, true), (1, true), (2, true), (3, true), (4, true), (5, true), (6, true), (7, true), (8, true), (9, true)] m (by kernel_rfl) (by kernel_rfl) (by kernel_rfl) H

/-- (*spec.l1Cur).pick -/
def c78 : IC :=
  (.seq
  (.reg [
    ⟨some 4, .assign (.const (.int .i64 0)), none⟩])
  (.seq
  (.seq
  (.reg [
    ⟨some 6, .move (.tmp 1), none⟩,
    ⟨some 7, .binOp .leq 3 (.tmp 6) (.const (.int .i64 1)) 3, none⟩])
  (.cond (.tmp 7)
    (.seq
    (.reg [
      ⟨some 4, .assign (.const (.int .i64 0)), none⟩])
    .ret)
    .skip))
  (.seq
  (.reg [
    ⟨some 8, .move (.tmp 0), none⟩,
    ⟨some 9, .call { callee := .value (.func 130), args := #[.tmp 8], argTypes := #[66] }, none⟩,
    ⟨some 5, .assign (.tmp 9), none⟩])
  (.seq
  (.seq
  (.reg [
    ⟨some 10, .move (.tmp 1), none⟩,
    ⟨some 11, .binOp .gtr 3 (.tmp 10) (.const (.int .i64 200)) 3, none⟩])
  (.cond (.tmp 11)
    (.reg [
      ⟨some 12, .move (.tmp 5), none⟩,
      ⟨some 13, .binOp .mul 3 (.tmp 12) (.const (.int .i64 256)) 3, none⟩,
      ⟨some 14, .move (.tmp 0), none⟩,
      ⟨some 15, .call { callee := .value (.func 130), args := #[.tmp 14], argTypes := #[66] }, none⟩,
      ⟨some 16, .binOp .add 3 (.tmp 13) (.tmp 15) 3, none⟩,
      ⟨some 5, .assign (.tmp 16), none⟩])
    .skip))
  (.seq
  (.reg [
    ⟨some 17, .move (.tmp 5), none⟩,
    ⟨some 18, .move (.tmp 1), none⟩,
    ⟨some 19, .binOp .rem 3 (.tmp 17) (.tmp 18) 3, none⟩,
    ⟨some 4, .assign (.tmp 19), none⟩])
  .ret)))))
theorem hd78 : Try.f78.body.map dec = some c78 := by kernel_rfl
theorem e78 {R : AV → AH → Prop} {h : AH} (x0 x1 : AV) (H : h.wf → AI Try.prog c78 (RetQ Try.prog [.tmp 4] R) [x0, x1, un, un, un, un, un, un, un, un, un, un, un, un, un, un, un, un, un, un] h) : AC Try.prog 78 [x0, x1] h R :=
  AC_of' (rs := [.tmp 4]) Try.func78 (by kernel_rfl) hd78 Try.ntmps78 rfl H

/-- (*spec.l1Cur).among -/
def c126 : IC :=
  (.seq
  (.reg [
    ⟨some 4, .assign (.const (.int .i64 0)), none⟩])
  (.seq
  (.reg [
    ⟨some 5, .move (.tmp 1), none⟩,
    ⟨some 6, .move (.tmp 0), none⟩,
    ⟨some 7, .move (.tmp 1), none⟩,
    ⟨some 8, .call { callee := .builtin .len, args := #[.tmp 7], argTypes := #[29] }, none⟩,
    ⟨some 9, .call { callee := .value (.func 78), args := #[.tmp 6, .tmp 8], argTypes := #[66, 3] }, none⟩,
    ⟨some 10, .indexAddr 29 (.tmp 5) (.tmp 9), none⟩,
    ⟨some 11, .load 3 (.tmp 10), none⟩,
    ⟨some 4, .assign (.tmp 11), none⟩])
  .ret))
theorem hd126 : Try.f126.body.map dec = some c126 := by kernel_rfl
theorem e126 {R : AV → AH → Prop} {h : AH} (x0 x1 : AV) (H : h.wf → AI Try.prog c126 (RetQ Try.prog [.tmp 4] R) [x0, x1, un, un, un, un, un, un, un, un, un, un] h) : AC Try.prog 126 [x0, x1] h R :=
  AC_of' (rs := [.tmp 4]) Try.func126 (by kernel_rfl) hd126 Try.ntmps126 rfl H

/-- (*spec.l1Cur).one -/
def c77 : IC :=
  (.seq
  (.reg [
    ⟨some 4, .assign (.const (.bool false)), none⟩])
  (.seq
  (.reg [
    ⟨some 5, .move (.tmp 0), none⟩,
    ⟨some 6, .move (.tmp 1), none⟩,
    ⟨some 7, .call { callee := .value (.func 78), args := #[.tmp 5, .tmp 6], argTypes := #[66, 3] }, none⟩,
    ⟨some 8, .binOp .eql 3 (.tmp 7) (.const (.int .i64 0)) 3, none⟩,
    ⟨some 4, .assign (.tmp 8), none⟩])
  .ret))
theorem hd77 : Try.f77.body.map dec = some c77 := by kernel_rfl
theorem e77 {R : AV → AH → Prop} {h : AH} (x0 x1 : AV) (H : h.wf → AI Try.prog c77 (RetQ Try.prog [.tmp 4] R) [x0, x1, un, un, un, un, un, un, un] h) : AC Try.prog 77 [x0, x1] h R :=
  AC_of' (rs := [.tmp 4]) Try.func77 (by kernel_rfl) hd77 Try.ntmps77 rfl H

/-- spec.l1Least -/
def c80 : IC :=
  (.seq
  (.reg [
    ⟨some 4, .assign (.const (.int .i64 0)), none⟩])
  (.seq
  (.seq
  (.reg [
    ⟨some 5, .move (.tmp 0), none⟩,
    ⟨some 6, .move (.tmp 1), none⟩,
    ⟨some 7, .binOp .lss 3 (.tmp 5) (.tmp 6) 3, none⟩])
  (.cond (.tmp 7)
    (.seq
    (.reg [
      ⟨some 8, .move (.tmp 0), none⟩,
      ⟨some 4, .assign (.tmp 8), none⟩])
    .ret)
    .skip))
  (.seq
  (.reg [
    ⟨some 9, .move (.tmp 1), none⟩,
    ⟨some 4, .assign (.tmp 9), none⟩])
  .ret)))
theorem hd80 : Try.f80.body.map dec = some c80 := by kernel_rfl
theorem e80 {R : AV → AH → Prop} {h : AH} (x0 x1 : AV) (H : h.wf → AI Try.prog c80 (RetQ Try.prog [.tmp 4] R) [x0, x1, un, un, un, un, un, un, un, un] h) : AC Try.prog 80 [x0, x1] h R :=
  AC_of' (rs := [.tmp 4]) Try.func80 (by kernel_rfl) hd80 Try.ntmps80 rfl H

/-- spec.l1Most -/
def c79 : IC :=
  (.seq
  (.reg [
    ⟨some 4, .assign (.const (.int .i64 0)), none⟩])
  (.seq
  (.seq
  (.reg [
    ⟨some 5, .move (.tmp 0), none⟩,
    ⟨some 6, .move (.tmp 1), none⟩,
    ⟨some 7, .binOp .gtr 3 (.tmp 5) (.tmp 6) 3, none⟩])
  (.cond (.tmp 7)
    (.seq
    (.reg [
      ⟨some 8, .move (.tmp 0), none⟩,
      ⟨some 4, .assign (.tmp 8), none⟩])
    .ret)
    .skip))
  (.seq
  (.reg [
    ⟨some 9, .move (.tmp 1), none⟩,
    ⟨some 4, .assign (.tmp 9), none⟩])
  .ret)))
theorem hd79 : Try.f79.body.map dec = some c79 := by kernel_rfl
theorem e79 {R : AV → AH → Prop} {h : AH} (x0 x1 : AV) (H : h.wf → AI Try.prog c79 (RetQ Try.prog [.tmp 4] R) [x0, x1, un, un, un, un, un, un, un, un] h) : AC Try.prog 79 [x0, x1] h R :=
  AC_of' (rs := [.tmp 4]) Try.func79 (by kernel_rfl) hd79 Try.ntmps79 rfl H

/-- spec.plStep -/
def c111 : IC :=
  (.seq
  (.reg [
    ⟨some 4, .alloc 108, none⟩])
  (.seq
  (.reg [
    ⟨some 5, .move (.tmp 0), none⟩,
    ⟨some 6, .move (.tmp 1), none⟩,
    ⟨some 7, .call { callee := .value (.func 80), args := #[.tmp 5, .tmp 6], argTypes := #[3, 3] }, none⟩,
    ⟨some 8, .move (.tmp 0), none⟩,
    ⟨some 9, .move (.tmp 1), none⟩,
    ⟨some 10, .call { callee := .value (.func 79), args := #[.tmp 8, .tmp 9], argTypes := #[3, 3] }, none⟩,
    ⟨some 11, .build 108 #[(0, .tmp 7), (1, .tmp 10)], none⟩,
    ⟨none, .store 108 (.tmp 4) (.tmp 11), none⟩])
  .ret))
theorem hd111 : Try.f111.body.map dec = some c111 := by kernel_rfl
theorem e111 {R : AV → AH → Prop} {h : AH} (x0 x1 : AV) (H : h.wf → AI Try.prog c111 (RetQ Try.prog [.cell 4 108] R) [x0, x1, un, un, un, un, un, un, un, un, un, un] h) : AC Try.prog 111 [x0, x1] h R :=
  AC_of' (rs := [.cell 4 108]) Try.func111 (by kernel_rfl) hd111 Try.ntmps111 rfl H

noncomputable def rg129_0 : Array Oper := rawAt Try.f129 0
noncomputable def rg129_1 : Array Oper := rawAt Try.f129 1
/-- (*spec.l1Cur).plan -/
noncomputable def c129 : IC :=
  (.seq
  (.reg [
    ⟨some 6, .alloc 31, none⟩])
  (.seq
  (.reg [
    ⟨some 13, .move (.tmp 0), none⟩,
    ⟨some 14, .move (.tmp 1), none⟩,
    ⟨some 15, .call { callee := .value (.func 78), args := #[.tmp 13, .tmp 14], argTypes := #[66, 3] }, none⟩,
    ⟨some 16, .binOp .add 3 (.const (.int .i64 1)) (.tmp 15) 3, none⟩,
    ⟨some 17, .build 31 #[(0, .tmp 16)], none⟩,
    ⟨some 7, .alloc 31, none⟩,
    ⟨none, .store 31 (.tmp 7) (.tmp 17), none⟩])
  (.seq
  (.seq
  (.reg [
    ⟨some 18, .move (.tmp 0), none⟩,
    ⟨some 19, .move (.tmp 2), none⟩,
    ⟨some 20, .binOp .add 3 (.tmp 19) (.const (.int .i64 1)) 3, none⟩,
    ⟨some 21, .call { callee := .value (.func 78), args := #[.tmp 18, .tmp 20], argTypes := #[66, 3] }, none⟩,
    ⟨some 8, .assign (.tmp 21), none⟩])
  (.block 0
  (.loop
    (.seq
    (.seq
    (.reg [
      ⟨some 22, .move (.tmp 8), none⟩,
      ⟨some 23, .binOp .gtr 3 (.tmp 22) (.const (.int .i64 0)) 3, none⟩])
    (.cond (.tmp 23)
      .skip
      (.exit 0)))
    (.seq
    (.block 1
    (.seq
    (.reg [
      ⟨some 26, .fieldAddr 31 (.tmp 7) 0, none⟩,
      ⟨some 27, .load 3 (.tmp 26), none⟩,
      ⟨some 28, .fieldAddr 31 (.tmp 7) 1, none⟩,
      ⟨some 29, .load 28 (.tmp 28), none⟩,
      ⟨some 30, .call { callee := .builtin .len, args := #[.tmp 29], argTypes := #[28] }, none⟩,
      ⟨some 31, .binOp .add 3 (.tmp 27) (.tmp 30) 3, none⟩,
      ⟨some 9, .assign (.tmp 31), none⟩])
    (.seq
    (.reg [
      ⟨some 32, .move (.tmp 0), none⟩,
      ⟨some 33, .move (.tmp 9), none⟩,
      ⟨some 34, .call { callee := .value (.func 78), args := #[.tmp 32, .tmp 33], argTypes := #[66, 3] }, none⟩,
      ⟨some 10, .assign (.tmp 34), none⟩])
    (.seq
    (.seq
    (.reg [
      ⟨some 35, .move (.tmp 0), none⟩,
      ⟨some 36, .call { callee := .value (.func 77), args := #[.tmp 35, .const (.int .i64 2)], argTypes := #[66, 3] }, none⟩])
    (.cond (.tmp 36)
      (.reg [
        ⟨some 37, .move (.tmp 9), none⟩,
        ⟨some 38, .binOp .sub 3 (.tmp 37) (.const (.int .i64 1)) 3, none⟩,
        ⟨some 10, .assign (.tmp 38), none⟩])
      .skip))
    (.raw (.region 9 rg129_0 true))))))
    (.reg [
      ⟨some 24, .move (.tmp 8), none⟩,
      ⟨some 25, .binOp .sub 3 (.tmp 24) (.const (.int .i64 1)) 3, none⟩,
      ⟨some 8, .assign (.tmp 25), none⟩]))))))
  (.seq
  (.reg [
    ⟨some 49, .fieldAddr 31 (.tmp 7) 0, none⟩,
    ⟨some 50, .load 3 (.tmp 49), none⟩,
    ⟨some 51, .fieldAddr 31 (.tmp 7) 1, none⟩,
    ⟨some 52, .load 28 (.tmp 51), none⟩,
    ⟨some 53, .call { callee := .builtin .len, args := #[.tmp 52], argTypes := #[28] }, none⟩,
    ⟨some 54, .binOp .add 3 (.tmp 50) (.tmp 53) 3, none⟩,
    ⟨some 11, .assign (.tmp 54), none⟩])
  (.seq
  (.seq
  (.reg [
    ⟨some 55, .move (.tmp 0), none⟩,
    ⟨some 56, .call { callee := .value (.func 78), args := #[.tmp 55, .const (.int .i64 3)], argTypes := #[66, 3] }, none⟩,
    ⟨some 57, .binOp .add 3 (.const (.int .i64 1)) (.tmp 56) 3, none⟩,
    ⟨some 12, .assign (.tmp 57), none⟩])
  (.block 2
  (.loop
    (.seq
    (.seq
    (.reg [
      ⟨some 58, .move (.tmp 12), none⟩,
      ⟨some 59, .binOp .gtr 3 (.tmp 58) (.const (.int .i64 0)) 3, none⟩])
    (.cond (.tmp 59)
      .skip
      (.exit 2)))
    (.seq
    (.block 3
    (.raw (.region 14 rg129_1 true)))
    (.reg [
      ⟨some 60, .move (.tmp 12), none⟩,
      ⟨some 61, .binOp .sub 3 (.tmp 60) (.const (.int .i64 1)) 3, none⟩,
      ⟨some 12, .assign (.tmp 61), none⟩]))))))
  (.seq
  (.seq
  (.reg [
    ⟨some 74, .move (.tmp 0), none⟩,
    ⟨some 75, .call { callee := .value (.func 77), args := #[.tmp 74, .const (.int .i64 12)], argTypes := #[66, 3] }, none⟩])
  (.cond (.tmp 75)
    (.reg [
      ⟨some 76, .fieldAddr 31 (.tmp 7) 2, none⟩,
      ⟨none, .store 29 (.tmp 76) (.const (.slice none 0 0)), none⟩])
    .skip))
  (.seq
  (.reg [
    ⟨some 77, .load 31 (.tmp 7), none⟩,
    ⟨none, .store 31 (.tmp 6) (.tmp 77), none⟩])
  .ret)))))))
theorem hd129 : Try.f129.body.map dec = some c129 := by kernel_rfl
theorem e129 {R : AV → AH → Prop} {h : AH} (x0 x1 x2 : AV) (H : h.wf → AI Try.prog c129 (RetQ Try.prog [.cell 6 31] R) [x0, x1, x2, un, un, un, un, un, un, un, un, un, un, un, un, un, un, un, un, un, un, un, un, un, un, un, un, un, un, un, un, un, un, un, un, un, un, un, un, un, un, un, un, un, un, un, un, un, un, un, un, un, un, un, un, un, un, un, un, un, un, un, un, un, un, un, un, un, un, un, un, un, un, un, un, un, un, un] h) : AC Try.prog 129 [x0, x1, x2] h R :=
  AC_of' (rs := [.cell 6 31]) Try.func129 (by kernel_rfl) hd129 Try.ntmps129 rfl H
theorem dz129_0 {h0 : AH} {L : List It} {Q : Exit → List AV → List It → Prop} {a : List AV} {id : Nat} (H : LX Try.prog ⟨[8, 10], []⟩ h0 L L (.c (⟨some 39, .fieldAddr 31 (.tmp 7) 1, none⟩, .p) <| .c (⟨some 40, .load 28 (.tmp 39), none⟩, .l) <| .c (⟨some 41, .move (.tmp 10), none⟩, .p) <| .c (⟨some 42, .move (.tmp 0), none⟩, .p) <| .c (⟨some 43, .move (.tmp 9), none⟩, .p) <| .c (⟨some 44, .call { callee := .value (.func 78), args := #[.tmp 42, .tmp 43], argTypes := #[66, 3] }, none⟩, .e) <| .c (⟨some 45, .call { callee := .value (.func 111), args := #[.tmp 41, .tmp 44], argTypes := #[3, 3] }, none⟩, .e) <| .c (⟨some 46, .buildSlice 28 1 #[(0, .tmp 45)], none⟩, .e) <| .c (⟨some 47, .call { callee := .builtin .append, args := #[.tmp 40, .tmp 46], argTypes := #[28, 28] }, none⟩, .f) <| .c (⟨some 48, .fieldAddr 31 (.tmp 7) 1, none⟩, .p) <| .c (⟨none, .store 28 (.tmp 48) (.tmp 47), none⟩, .f) <| .n) Q a) : LI Try.prog h0 L (.raw (.region id rg129_0 true)) Q a :=
  LI_draw (.c (0, .p) <| .c (1, .l) <| .c (2, .p) <| .c (3, .p) <| .c (4, .p) <| .c (5, .e) <| .c (6, .e) <| .c (7, .e) <| .c (8, .f) <| .c (9, .p) <| .c (10, .f) <| .n) [8, 10] (by kernel_rfl) (by kernel_rfl) (by kernel_rfl) H
theorem db129_0 {h0 : AH} {L : List It} {Q : Exit → List AV → List It → Prop} {a : List AV} {id : Nat} (K : List (Nat × List AV)) (hK : ∀ x ∈ K, It.pt x.1 x.2 ∈ L) (H : LX Try.prog ⟨[5, 6, 7, 8, 10], K⟩ h0 L L (.c (⟨some 39, .fieldAddr 31 (.tmp 7) 1, none⟩, .p) <| .c (⟨some 41, .move (.tmp 10), none⟩, .p) <| .c (⟨some 42, .move (.tmp 0), none⟩, .p) <| .c (⟨some 43, .move (.tmp 9), none⟩, .p) <| .t (.c (⟨some 40, .load 28 (.tmp 39), none⟩, .e) <| .c (⟨some 44, .call { callee := .value (.func 78), args := #[.tmp 42, .tmp 43], argTypes := #[66, 3] }, none⟩, .f) <| .c (⟨some 45, .call { callee := .value (.func 111), args := #[.tmp 41, .tmp 44], argTypes := #[3, 3] }, none⟩, .f) <| .c (⟨some 46, .buildSlice 28 1 #[(0, .tmp 45)], none⟩, .f) <| .c (⟨some 47, .call { callee := .builtin .append, args := #[.tmp 40, .tmp 46], argTypes := #[28, 28] }, none⟩, .f) <| .c (⟨some 48, .fieldAddr 31 (.tmp 7) 1, none⟩, .p) <| .c (⟨none, .store 28 (.tmp 48) (.tmp 47), none⟩, .f) <| .n) (.c (⟨some 44, .call { callee := .value (.func 78), args := #[.tmp 42, .tmp 43], argTypes := #[66, 3] }, none⟩, .f) <| .t (.c (⟨some 40, .load 28 (.tmp 39), none⟩, .e) <| .c (⟨some 45, .call { callee := .value (.func 111), args := #[.tmp 41, .tmp 44], argTypes := #[3, 3] }, none⟩, .f) <| .c (⟨some 46, .buildSlice 28 1 #[(0, .tmp 45)], none⟩, .f) <| .c (⟨some 47, .call { callee := .builtin .append, args := #[.tmp 40, .tmp 46], argTypes := #[28, 28] }, none⟩, .f) <| .c (⟨some 48, .fieldAddr 31 (.tmp 7) 1, none⟩, .p) <| .c (⟨none, .store 28 (.tmp 48) (.tmp 47), none⟩, .f) <| .n) (.c (⟨some 45, .call { callee := .value (.func 111), args := #[.tmp 41, .tmp 44], argTypes := #[3, 3] }, none⟩, .f) <| .t (.c (⟨some 40, .load 28 (.tmp 39), none⟩, .e) <| .c (⟨some 46, .buildSlice 28 1 #[(0, .tmp 45)], none⟩, .f) <| .c (⟨some 47, .call { callee := .builtin .append, args := #[.tmp 40, .tmp 46], argTypes := #[28, 28] }, none⟩, .f) <| .c (⟨some 48, .fieldAddr 31 (.tmp 7) 1, none⟩, .p) <| .c (⟨none, .store 28 (.tmp 48) (.tmp 47), none⟩, .f) <| .n) (.c (⟨some 46, .buildSlice 28 1 #[(0, .tmp 45)], none⟩, .f) <| .c (⟨some 40, .load 28 (.tmp 39), none⟩, .e) <| .c (⟨some 47, .call { callee := .builtin .append, args := #[.tmp 40, .tmp 46], argTypes := #[28, 28] }, none⟩, .f) <| .c (⟨some 48, .fieldAddr 31 (.tmp 7) 1, none⟩, .p) <| .c (⟨none, .store 28 (.tmp 48) (.tmp 47), none⟩, .f) <| .n)))) Q a) : LI Try.prog h0 L (.raw (.region id rg129_0 true)) Q a :=
  LI_drawK (.c (0, .p) <| .c (2, .p) <| .c (3, .p) <| .c (4, .p) <| .t (.c (1, .e) <| .c (5, .f) <| .c (6, .f) <| .c (7, .f) <| .c (8, .f) <| .c (9, .p) <| .c (10, .f) <| .n) (.c (5, .f) <| .t (.c (1, .e) <| .c (6, .f) <| .c (7, .f) <| .c (8, .f) <| .c (9, .p) <| .c (10, .f) <| .n) (.c (6, .f) <| .t (.c (1, .e) <| .c (7, .f) <| .c (8, .f) <| .c (9, .p) <| .c (10, .f) <| .n) (.c (7, .f) <| .c (1, .e) <| .c (8, .f) <| .c (9, .p) <| .c (10, .f) <| .n)))) [5, 6, 7, 8, 10] K hK (by kernel_rfl) (by kernel_rfl) (by kernel_rfl) H
theorem dr129_0 (m : Nat) {Q : Exit → List AV → AH → Prop} {a : List AV} {h : AH} {id : Nat} (H : AX Try.prog m h [(⟨some 39, .fieldAddr 31 (.tmp 7) 1, none⟩, true),
  (⟨some 40, .load 28 (.tmp 39), none⟩, true),
  (⟨some 41, .move (.tmp 10), none⟩, true),
  (⟨some 42, .move (.tmp 0), none⟩, true),
  (⟨some 43, .move (.tmp 9), none⟩, true),
  (⟨some 44, .call { callee := .value (.func 78), args := #[.tmp 42, .tmp 43], argTypes := #[66, 3] }, none⟩, false),
  (⟨some 45, .call { callee := .value (.func 111), args := #[.tmp 41, .tmp 44], argTypes := #[3, 3] }, none⟩, false),
  (⟨some 46, .buildSlice 28 1 #[(0, .tmp 45)], none⟩, false),
  (⟨some 47, .call { callee := .builtin .append, args := #[.tmp 40, .tmp 46], argTypes := #[28, 28] }, none⟩, false),
  (⟨some 48, .fieldAddr 31 (.tmp 7) 1, none⟩, true),
  (⟨none, .store 28 (.tmp 48) (.tmp 47), none⟩, false)] (fun a' h' => Q .normal a' h') a h) : AI Try.prog (.raw (.region id rg129_0 true)) Q a h :=
  AI_draw [(0, true), (1, true), (2, true), (3, true), (4, true), (5, false), (6, false), (7, false), (8, false), (9, true), (10, false)] m (by kernel_rfl) (by kernel_rfl) (by kernel_rfl) H
theorem dz129_1 {h0 : AH} {L : List It} {Q : Exit → List AV → List It → Prop} {a : List AV} {id : Nat} (H : LX Try.prog ⟨[10, 12], []⟩ h0 L L (.c (⟨some 62, .fieldAddr 31 (.tmp 7) 2, none⟩, .p) <| .c (⟨some 63, .load 29 (.tmp 62), none⟩, .l) <| .c (⟨some 64, .move (.tmp 11), none⟩, .p) <| .c (⟨some 65, .binOp .sub 3 (.tmp 64) (.const (.int .i64 1)) 3, none⟩, .p) <| .c (⟨some 66, .move (.tmp 0), none⟩, .p) <| .c (⟨some 67, .move (.tmp 11), none⟩, .p) <| .c (⟨some 68, .call { callee := .value (.func 80), args := #[.tmp 67, .const (.int .i64 4)], argTypes := #[3, 3] }, none⟩, .e) <| .c (⟨some 69, .call { callee := .value (.func 78), args := #[.tmp 66, .tmp 68], argTypes := #[66, 3] }, none⟩, .e) <| .c (⟨some 70, .binOp .sub 3 (.tmp 65) (.tmp 69) 3, none⟩, .p) <| .c (⟨some 71, .buildSlice 29 1 #[(0, .tmp 70)], none⟩, .e) <| .c (⟨some 72, .call { callee := .builtin .append, args := #[.tmp 63, .tmp 71], argTypes := #[29, 29] }, none⟩, .f) <| .c (⟨some 73, .fieldAddr 31 (.tmp 7) 2, none⟩, .p) <| .c (⟨none, .store 29 (.tmp 73) (.tmp 72), none⟩, .f) <| .n) Q a) : LI Try.prog h0 L (.raw (.region id rg129_1 true)) Q a :=
  LI_draw (.c (0, .p) <| .c (1, .l) <| .c (2, .p) <| .c (3, .p) <| .c (4, .p) <| .c (5, .p) <| .c (6, .e) <| .c (7, .e) <| .c (8, .p) <| .c (9, .e) <| .c (10, .f) <| .c (11, .p) <| .c (12, .f) <| .n) [10, 12] (by kernel_rfl) (by kernel_rfl) (by kernel_rfl) H
theorem db129_1 {h0 : AH} {L : List It} {Q : Exit → List AV → List It → Prop} {a : List AV} {id : Nat} (K : List (Nat × List AV)) (hK : ∀ x ∈ K, It.pt x.1 x.2 ∈ L) (H : LX Try.prog ⟨[6, 7, 9, 10, 12], K⟩ h0 L L (.c (⟨some 62, .fieldAddr 31 (.tmp 7) 2, none⟩, .p) <| .c (⟨some 64, .move (.tmp 11), none⟩, .p) <| .c (⟨some 65, .binOp .sub 3 (.tmp 64) (.const (.int .i64 1)) 3, none⟩, .p) <| .c (⟨some 66, .move (.tmp 0), none⟩, .p) <| .c (⟨some 67, .move (.tmp 11), none⟩, .p) <| .t (.c (⟨some 63, .load 29 (.tmp 62), none⟩, .e) <| .c (⟨some 68, .call { callee := .value (.func 80), args := #[.tmp 67, .const (.int .i64 4)], argTypes := #[3, 3] }, none⟩, .f) <| .c (⟨some 69, .call { callee := .value (.func 78), args := #[.tmp 66, .tmp 68], argTypes := #[66, 3] }, none⟩, .f) <| .c (⟨some 70, .binOp .sub 3 (.tmp 65) (.tmp 69) 3, none⟩, .p) <| .c (⟨some 71, .buildSlice 29 1 #[(0, .tmp 70)], none⟩, .f) <| .c (⟨some 72, .call { callee := .builtin .append, args := #[.tmp 63, .tmp 71], argTypes := #[29, 29] }, none⟩, .f) <| .c (⟨some 73, .fieldAddr 31 (.tmp 7) 2, none⟩, .p) <| .c (⟨none, .store 29 (.tmp 73) (.tmp 72), none⟩, .f) <| .n) (.c (⟨some 68, .call { callee := .value (.func 80), args := #[.tmp 67, .const (.int .i64 4)], argTypes := #[3, 3] }, none⟩, .f) <| .t (.c (⟨some 63, .load 29 (.tmp 62), none⟩, .e) <| .c (⟨some 69, .call { callee := .value (.func 78), args := #[.tmp 66, .tmp 68], argTypes := #[66, 3] }, none⟩, .f) <| .c (⟨some 70, .binOp .sub 3 (.tmp 65) (.tmp 69) 3, none⟩, .p) <| .c (⟨some 71, .buildSlice 29 1 #[(0, .tmp 70)], none⟩, .f) <| .c (⟨some 72, .call { callee := .builtin .append, args := #[.tmp 63, .tmp 71], argTypes := #[29, 29] }, none⟩, .f) <| .c (⟨some 73, .fieldAddr 31 (.tmp 7) 2, none⟩, .p) <| .c (⟨none, .store 29 (.tmp 73) (.tmp 72), none⟩, .f) <| .n) (.c (⟨some 69, .call { callee := .value (.func 78), args := #[.tmp 66, .tmp 68], argTypes := #[66, 3] }, none⟩, .f) <| .c (⟨some 70, .binOp .sub 3 (.tmp 65) (.tmp 69) 3, none⟩, .p) <| .t (.c (⟨some 63, .load 29 (.tmp 62), none⟩, .e) <| .c (⟨some 71, .buildSlice 29 1 #[(0, .tmp 70)], none⟩, .f) <| .c (⟨some 72, .call { callee := .builtin .append, args := #[.tmp 63, .tmp 71], argTypes := #[29, 29] }, none⟩, .f) <| .c (⟨some 73, .fieldAddr 31 (.tmp 7) 2, none⟩, .p) <| .c (⟨none, .store 29 (.tmp 73) (.tmp 72), none⟩, .f) <| .n) (.c (⟨some 71, .buildSlice 29 1 #[(0, .tmp 70)], none⟩, .f) <| .c (⟨some 63, .load 29 (.tmp 62), none⟩, .e) <| .c (⟨some 72, .call { callee := .builtin .append, args := #[.tmp 63, .tmp 71], argTypes := #[29, 29] }, none⟩, .f) <| .c (⟨some 73, .fieldAddr 31 (.tmp 7) 2, none⟩, .p) <| .c (⟨none, .store 29 (.tmp 73) (.tmp 72), none⟩, .f) <| .n)))) Q a) : LI Try.prog h0 L (.raw (.region id rg129_1 true)) Q a :=
  LI_drawK (.c (0, .p) <| .c (2, .p) <| .c (3, .p) <| .c (4, .p) <| .c (5, .p) <| .t (.c (1, .e) <| .c (6, .f) <| .c (7, .f) <| .c (8, .p) <| .c (9, .f) <| .c (10, .f) <| .c (11, .p) <| .c (12, .f) <| .n) (.c (6, .f) <| .t (.c (1, .e) <| .c (7, .f) <| .c (8, .p) <| .c (9, .f) <| .c (10, .f) <| .c (11, .p) <| .c (12, .f) <| .n) (.c (7, .f) <| .c (8, .p) <| .t (.c (1, .e) <| .c (9, .f) <| .c (10, .f) <| .c (11, .p) <| .c (12, .f) <| .n) (.c (9, .f) <| .c (1, .e) <| .c (10, .f) <| .c (11, .p) <| .c (12, .f) <| .n)))) [6, 7, 9, 10, 12] K hK (by kernel_rfl) (by kernel_rfl) (by kernel_rfl) H
theorem dr129_1 (m : Nat) {Q : Exit → List AV → AH → Prop} {a : List AV} {h : AH} {id : Nat} (H : AX Try.prog m h [(⟨some 62, .fieldAddr 31 (.tmp 7) 2, none⟩, true),
  (⟨some 63, .load 29 (.tmp 62), none⟩, true),
  (⟨some 64, .move (.tmp 11), none⟩, true),
  (⟨some 65, .binOp .sub 3 (.tmp 64) (.const (.int .i64 1)) 3, none⟩, true),
  (⟨some 66, .move (.tmp 0), none⟩, true),
  (⟨some 67, .move (.tmp 11), none⟩, true),
  (⟨some 68, .call { callee := .value (.func 80), args := #[.tmp 67, .const (.int .i64 4)], argTypes := #[3, 3] }, none⟩, false),
  (⟨some 69, .call { callee := .value (.func 78), args := #[.tmp 66, .tmp 68], argTypes := #[66, 3] }, none⟩, false),
  (⟨some 70, .binOp .sub 3 (.tmp 65) (.tmp 69) 3, none⟩, true),
  (⟨some 71, .buildSlice 29 1 #[(0, .tmp 70)], none⟩, false),
  (⟨some 72, .call { callee := .builtin .append, args := #[.tmp 63, .tmp 71], argTypes := #[29, 29] }, none⟩, false),
  (⟨some 73, .fieldAddr 31 (.tmp 7) 2, none⟩, true),
  (⟨none, .store 29 (.tmp 73) (.tmp 72), none⟩, false)] (fun a' h' => Q .normal a' h') a h) : AI Try.prog (.raw (.region id rg129_1 true)) Q a h :=
  AI_draw [(0, true), (1, true), (2, true), (3, true), (4, true), (5, true), (6, false), (7, false), (8, true), (9, false), (10, false), (11, true), (12, false)] m (by kernel_rfl) (by kernel_rfl) (by kernel_rfl) H

noncomputable def rg76_0 : Array Oper := rawAt Try.f76 0
noncomputable def rg76_1 : Array Oper := rawAt Try.f76 1
noncomputable def rg76_2 : Array Oper := rawAt Try.f76 2
/-- (*spec.l1Cur).anyPlan -/
noncomputable def c76 : IC :=
  (.seq
  (.reg [
    ⟨some 6, .alloc 31, none⟩])
  (.seq
  (.reg [
    ⟨some 10, .move (.tmp 0), none⟩,
    ⟨some 11, .move (.tmp 1), none⟩,
    ⟨some 12, .move (.tmp 2), none⟩,
    ⟨some 13, .call { callee := .value (.func 129), args := #[.tmp 10, .tmp 11, .tmp 12], argTypes := #[66, 3, 3] }, none⟩,
    ⟨some 7, .alloc 31, none⟩,
    ⟨none, .store 31 (.tmp 7) (.tmp 13), none⟩])
  (.seq
  (.seq
  (.reg [
    ⟨some 14, .move (.tmp 0), none⟩,
    ⟨some 15, .call { callee := .value (.func 78), args := #[.tmp 14, .const (.int .i64 16)], argTypes := #[66, 3] }, none⟩])
  (.block 0
  (.seq
  (.reg [
    ⟨some 17, .binOp .eql 3 (.tmp 15) (.const (.int .i64 0)) 3, none⟩,
    ⟨some 16, .assign (.tmp 17), none⟩])
  (.cond (.tmp 16)
    (.reg [
      ⟨some 18, .move (.tmp 0), none⟩,
      ⟨some 19, .buildSlice 29 5 #[(0, .const (.int .i64 (-1))), (1, .const (.int .i64 0)), (2, .const (.int .i64 1)), (3, .const (.int .i64 6)), (4, .const (.int .i64 7))], none⟩,
      ⟨some 20, .call { callee := .value (.func 126), args := #[.tmp 18, .tmp 19], argTypes := #[66, 29] }, none⟩,
      ⟨some 21, .fieldAddr 31 (.tmp 7) 0, none⟩,
      ⟨none, .store 3 (.tmp 21) (.tmp 20), none⟩])
    (.seq
    (.reg [
      ⟨some 23, .binOp .eql 3 (.tmp 15) (.const (.int .i64 1)) 3, none⟩,
      ⟨some 22, .assign (.tmp 23), none⟩])
    (.cond (.tmp 22)
      (.seq
      (.reg [
        ⟨some 24, .fieldAddr 31 (.tmp 7) 1, none⟩,
        ⟨some 25, .load 28 (.tmp 24), none⟩,
        ⟨some 26, .call { callee := .builtin .len, args := #[.tmp 25], argTypes := #[28] }, none⟩,
        ⟨some 27, .binOp .gtr 3 (.tmp 26) (.const (.int .i64 0)) 3, none⟩])
      (.cond (.tmp 27)
        (.raw (.region 7 rg76_0 true))
        .skip))
      (.seq
      (.reg [
        ⟨some 43, .binOp .eql 3 (.tmp 15) (.const (.int .i64 2)) 3, none⟩,
        ⟨some 42, .assign (.tmp 43), none⟩])
      (.cond (.tmp 42)
        (.raw (.region 9 rg76_1 true))
        (.seq
        (.reg [
          ⟨some 53, .binOp .eql 3 (.tmp 15) (.const (.int .i64 3)) 3, none⟩,
          ⟨some 52, .assign (.tmp 53), none⟩])
        (.cond (.tmp 52)
          (.seq
          (.reg [
            ⟨some 54, .build 31 #[(0, .const (.int .i64 1))], none⟩,
            ⟨none, .store 31 (.tmp 7) (.tmp 54), none⟩])
          (.seq
          (.seq
          (.reg [
            ⟨some 55, .move (.tmp 0), none⟩,
            ⟨some 56, .call { callee := .value (.func 78), args := #[.tmp 55, .const (.int .i64 4)], argTypes := #[66, 3] }, none⟩,
            ⟨some 57, .binOp .add 3 (.const (.int .i64 18)) (.tmp 56) 3, none⟩,
            ⟨some 8, .assign (.tmp 57), none⟩])
          (.block 1
          (.loop
            (.seq
            (.seq
            (.reg [
              ⟨some 58, .move (.tmp 8), none⟩,
              ⟨some 59, .binOp .gtr 3 (.tmp 58) (.const (.int .i64 0)) 3, none⟩])
            (.cond (.tmp 59)
              .skip
              (.exit 1)))
            (.seq
            (.block 2
            (.reg [
              ⟨some 62, .fieldAddr 31 (.tmp 7) 1, none⟩,
              ⟨some 63, .load 28 (.tmp 62), none⟩,
              ⟨some 64, .fieldAddr 31 (.tmp 7) 1, none⟩,
              ⟨some 65, .load 28 (.tmp 64), none⟩,
              ⟨some 66, .call { callee := .builtin .len, args := #[.tmp 65], argTypes := #[28] }, none⟩,
              ⟨some 67, .fieldAddr 31 (.tmp 7) 1, none⟩,
              ⟨some 68, .load 28 (.tmp 67), none⟩,
              ⟨some 69, .call { callee := .builtin .len, args := #[.tmp 68], argTypes := #[28] }, none⟩,
              ⟨some 70, .build 108 #[(0, .tmp 66), (1, .tmp 69)], none⟩,
              ⟨some 71, .buildSlice 28 1 #[(0, .tmp 70)], none⟩,
              ⟨some 72, .call { callee := .builtin .append, args := #[.tmp 63, .tmp 71], argTypes := #[28, 28] }, none⟩,
              ⟨some 73, .fieldAddr 31 (.tmp 7) 1, none⟩,
              ⟨none, .store 28 (.tmp 73) (.tmp 72), none⟩]))
            (.reg [
              ⟨some 60, .move (.tmp 8), none⟩,
              ⟨some 61, .binOp .sub 3 (.tmp 60) (.const (.int .i64 1)) 3, none⟩,
              ⟨some 8, .assign (.tmp 61), none⟩]))))))
          (.reg [
            ⟨some 74, .fieldAddr 31 (.tmp 7) 1, none⟩,
            ⟨some 75, .load 28 (.tmp 74), none⟩,
            ⟨some 76, .call { callee := .builtin .len, args := #[.tmp 75], argTypes := #[28] }, none⟩,
            ⟨some 77, .buildSlice 29 1 #[(0, .tmp 76)], none⟩,
            ⟨some 78, .fieldAddr 31 (.tmp 7) 2, none⟩,
            ⟨none, .store 29 (.tmp 78) (.tmp 77), none⟩])))
          (.seq
          (.reg [
            ⟨some 80, .binOp .eql 3 (.tmp 15) (.const (.int .i64 4)) 3, none⟩,
            ⟨some 79, .assign (.tmp 80), none⟩])
          (.cond (.tmp 79)
            (.block 3
            (.loop
              (.seq
              (.seq
              (.raw (.region 18 rg76_2 true))
              (.cond (.tmp 87)
                .skip
                (.exit 3)))
              (.block 4
              (.reg [
                ⟨some 88, .fieldAddr 31 (.tmp 7) 2, none⟩,
                ⟨some 89, .load 29 (.tmp 88), none⟩,
                ⟨some 90, .buildSlice 29 1 #[(0, .const (.int .i64 0))], none⟩,
                ⟨some 91, .call { callee := .builtin .append, args := #[.tmp 89, .tmp 90], argTypes := #[29, 29] }, none⟩,
                ⟨some 92, .fieldAddr 31 (.tmp 7) 2, none⟩,
                ⟨none, .store 29 (.tmp 92) (.tmp 91), none⟩])))))
            (.seq
            (.reg [
              ⟨some 94, .binOp .eql 3 (.tmp 15) (.const (.int .i64 5)) 3, none⟩,
              ⟨some 93, .assign (.tmp 94), none⟩])
            (.cond (.tmp 93)
              (.seq
              (.reg [
                ⟨some 95, .build 31 #[(0, .const (.int .i64 2))], none⟩,
                ⟨none, .store 31 (.tmp 7) (.tmp 95), none⟩])
              (.seq
              (.seq
              (.reg [
                ⟨some 96, .move (.tmp 0), none⟩,
                ⟨some 97, .call { callee := .value (.func 78), args := #[.tmp 96, .const (.int .i64 2)], argTypes := #[66, 3] }, none⟩,
                ⟨some 98, .binOp .add 3 (.const (.int .i64 40)) (.tmp 97) 3, none⟩,
                ⟨some 9, .assign (.tmp 98), none⟩])
              (.block 5
              (.loop
                (.seq
                (.seq
                (.reg [
                  ⟨some 99, .move (.tmp 9), none⟩,
                  ⟨some 100, .binOp .gtr 3 (.tmp 99) (.const (.int .i64 0)) 3, none⟩])
                (.cond (.tmp 100)
                  .skip
                  (.exit 5)))
                (.seq
                (.block 6
                (.reg [
                  ⟨some 103, .fieldAddr 31 (.tmp 7) 1, none⟩,
                  ⟨some 104, .load 28 (.tmp 103), none⟩,
                  ⟨some 105, .fieldAddr 31 (.tmp 7) 1, none⟩,
                  ⟨some 106, .load 28 (.tmp 105), none⟩,
                  ⟨some 107, .call { callee := .builtin .len, args := #[.tmp 106], argTypes := #[28] }, none⟩,
                  ⟨some 108, .binOp .add 3 (.const (.int .i64 1)) (.tmp 107) 3, none⟩,
                  ⟨some 109, .build 108 #[(0, .const (.int .i64 0)), (1, .tmp 108)], none⟩,
                  ⟨some 110, .buildSlice 28 1 #[(0, .tmp 109)], none⟩,
                  ⟨some 111, .call { callee := .builtin .append, args := #[.tmp 104, .tmp 110], argTypes := #[28, 28] }, none⟩,
                  ⟨some 112, .fieldAddr 31 (.tmp 7) 1, none⟩,
                  ⟨none, .store 28 (.tmp 112) (.tmp 111), none⟩]))
                (.reg [
                  ⟨some 101, .move (.tmp 9), none⟩,
                  ⟨some 102, .binOp .sub 3 (.tmp 101) (.const (.int .i64 1)) 3, none⟩,
                  ⟨some 9, .assign (.tmp 102), none⟩]))))))
              (.reg [
                ⟨some 113, .buildSlice 29 1 #[(0, .const (.int .i64 5))], none⟩,
                ⟨some 114, .fieldAddr 31 (.tmp 7) 2, none⟩,
                ⟨none, .store 29 (.tmp 114) (.tmp 113), none⟩])))
              .skip))))))))))))))
  (.seq
  (.reg [
    ⟨some 115, .load 31 (.tmp 7), none⟩,
    ⟨none, .store 31 (.tmp 6) (.tmp 115), none⟩])
  .ret))))
theorem hd76 : Try.f76.body.map dec = some c76 := by kernel_rfl
theorem e76 {R : AV → AH → Prop} {h : AH} (x0 x1 x2 : AV) (H : h.wf → AI Try.prog c76 (RetQ Try.prog [.cell 6 31] R) [x0, x1, x2, un, un, un, un, un, un, un, un, un, un, un, un, un, un, un, un, un, un, un, un, un, un, un, un, un, un, un, un, un, un, un, un, un, un, un, un, un, un, un, un, un, un, un, un, un, un, un, un, un, un, un, un, un, un, un, un, un, un, un, un, un, un, un, un, un, un, un, un, un, un, un, un, un, un, un, un, un, un, un, un, un, un, un, un, un, un, un, un, un, un, un, un, un, un, un, un, un, un, un, un, un, un, un, un, un, un, un, un, un, un, un, un, un] h) : AC Try.prog 76 [x0, x1, x2] h R :=
  AC_of' (rs := [.cell 6 31]) Try.func76 (by kernel_rfl) hd76 Try.ntmps76 rfl H
theorem dz76_0 {h0 : AH} {L : List It} {Q : Exit → List AV → List It → Prop} {a : List AV} {id : Nat} (H : LX Try.prog ⟨[14], []⟩ h0 L L (.c (⟨some 28, .fieldAddr 31 (.tmp 7) 1, none⟩, .p) <| .c (⟨some 29, .load 28 (.tmp 28), none⟩, .l) <| .c (⟨some 30, .move (.tmp 0), none⟩, .p) <| .c (⟨some 31, .fieldAddr 31 (.tmp 7) 1, none⟩, .p) <| .c (⟨some 32, .load 28 (.tmp 31), none⟩, .l) <| .c (⟨some 33, .call { callee := .builtin .len, args := #[.tmp 32], argTypes := #[28] }, none⟩, .p) <| .c (⟨some 35, .move (.tmp 0), none⟩, .p) <| .c (⟨some 38, .move (.tmp 0), none⟩, .p) <| .c (⟨some 34, .call { callee := .value (.func 78), args := #[.tmp 30, .tmp 33], argTypes := #[66, 3] }, none⟩, .e) <| .c (⟨some 36, .call { callee := .value (.func 78), args := #[.tmp 35, .const (.int .i64 5)], argTypes := #[66, 3] }, none⟩, .e) <| .c (⟨some 37, .binOp .sub 3 (.tmp 36) (.const (.int .i64 1)) 3, none⟩, .p) <| .c (⟨some 39, .call { callee := .value (.func 78), args := #[.tmp 38, .const (.int .i64 8)], argTypes := #[66, 3] }, none⟩, .e) <| .c (⟨some 40, .build 108 #[(0, .tmp 37), (1, .tmp 39)], none⟩, .p) <| .c (⟨some 41, .indexAddr 28 (.tmp 29) (.tmp 34), none⟩, .p) <| .c (⟨none, .store 108 (.tmp 41) (.tmp 40), none⟩, .f) <| .n) Q a) : LI Try.prog h0 L (.raw (.region id rg76_0 true)) Q a :=
  LI_draw (.c (0, .p) <| .c (1, .l) <| .c (2, .p) <| .c (3, .p) <| .c (4, .l) <| .c (5, .p) <| .c (7, .p) <| .c (10, .p) <| .c (6, .e) <| .c (8, .e) <| .c (9, .p) <| .c (11, .e) <| .c (12, .p) <| .c (13, .p) <| .c (14, .f) <| .n) [14] (by kernel_rfl) (by kernel_rfl) (by kernel_rfl) H
theorem db76_0 {h0 : AH} {L : List It} {Q : Exit → List AV → List It → Prop} {a : List AV} {id : Nat} (K : List (Nat × List AV)) (hK : ∀ x ∈ K, It.pt x.1 x.2 ∈ L) (H : LX Try.prog ⟨[6, 8, 11, 14], K⟩ h0 L L (.c (⟨some 28, .fieldAddr 31 (.tmp 7) 1, none⟩, .p) <| .c (⟨some 30, .move (.tmp 0), none⟩, .p) <| .c (⟨some 31, .fieldAddr 31 (.tmp 7) 1, none⟩, .p) <| .c (⟨some 32, .load 28 (.tmp 31), none⟩, .l) <| .c (⟨some 33, .call { callee := .builtin .len, args := #[.tmp 32], argTypes := #[28] }, none⟩, .p) <| .c (⟨some 35, .move (.tmp 0), none⟩, .p) <| .c (⟨some 38, .move (.tmp 0), none⟩, .p) <| .t (.c (⟨some 29, .load 28 (.tmp 28), none⟩, .e) <| .c (⟨some 34, .call { callee := .value (.func 78), args := #[.tmp 30, .tmp 33], argTypes := #[66, 3] }, none⟩, .f) <| .c (⟨some 36, .call { callee := .value (.func 78), args := #[.tmp 35, .const (.int .i64 5)], argTypes := #[66, 3] }, none⟩, .f) <| .c (⟨some 37, .binOp .sub 3 (.tmp 36) (.const (.int .i64 1)) 3, none⟩, .p) <| .c (⟨some 39, .call { callee := .value (.func 78), args := #[.tmp 38, .const (.int .i64 8)], argTypes := #[66, 3] }, none⟩, .f) <| .c (⟨some 40, .build 108 #[(0, .tmp 37), (1, .tmp 39)], none⟩, .p) <| .c (⟨some 41, .indexAddr 28 (.tmp 29) (.tmp 34), none⟩, .p) <| .c (⟨none, .store 108 (.tmp 41) (.tmp 40), none⟩, .f) <| .n) (.c (⟨some 34, .call { callee := .value (.func 78), args := #[.tmp 30, .tmp 33], argTypes := #[66, 3] }, none⟩, .f) <| .t (.c (⟨some 29, .load 28 (.tmp 28), none⟩, .e) <| .c (⟨some 36, .call { callee := .value (.func 78), args := #[.tmp 35, .const (.int .i64 5)], argTypes := #[66, 3] }, none⟩, .f) <| .c (⟨some 37, .binOp .sub 3 (.tmp 36) (.const (.int .i64 1)) 3, none⟩, .p) <| .c (⟨some 39, .call { callee := .value (.func 78), args := #[.tmp 38, .const (.int .i64 8)], argTypes := #[66, 3] }, none⟩, .f) <| .c (⟨some 40, .build 108 #[(0, .tmp 37), (1, .tmp 39)], none⟩, .p) <| .c (⟨some 41, .indexAddr 28 (.tmp 29) (.tmp 34), none⟩, .p) <| .c (⟨none, .store 108 (.tmp 41) (.tmp 40), none⟩, .f) <| .n) (.c (⟨some 36, .call { callee := .value (.func 78), args := #[.tmp 35, .const (.int .i64 5)], argTypes := #[66, 3] }, none⟩, .f) <| .c (⟨some 37, .binOp .sub 3 (.tmp 36) (.const (.int .i64 1)) 3, none⟩, .p) <| .t (.c (⟨some 29, .load 28 (.tmp 28), none⟩, .e) <| .c (⟨some 39, .call { callee := .value (.func 78), args := #[.tmp 38, .const (.int .i64 8)], argTypes := #[66, 3] }, none⟩, .f) <| .c (⟨some 40, .build 108 #[(0, .tmp 37), (1, .tmp 39)], none⟩, .p) <| .c (⟨some 41, .indexAddr 28 (.tmp 29) (.tmp 34), none⟩, .p) <| .c (⟨none, .store 108 (.tmp 41) (.tmp 40), none⟩, .f) <| .n) (.c (⟨some 39, .call { callee := .value (.func 78), args := #[.tmp 38, .const (.int .i64 8)], argTypes := #[66, 3] }, none⟩, .f) <| .c (⟨some 40, .build 108 #[(0, .tmp 37), (1, .tmp 39)], none⟩, .p) <| .c (⟨some 29, .load 28 (.tmp 28), none⟩, .e) <| .c (⟨some 41, .indexAddr 28 (.tmp 29) (.tmp 34), none⟩, .p) <| .c (⟨none, .store 108 (.tmp 41) (.tmp 40), none⟩, .f) <| .n)))) Q a) : LI Try.prog h0 L (.raw (.region id rg76_0 true)) Q a :=
  LI_drawK (.c (0, .p) <| .c (2, .p) <| .c (3, .p) <| .c (4, .l) <| .c (5, .p) <| .c (7, .p) <| .c (10, .p) <| .t (.c (1, .e) <| .c (6, .f) <| .c (8, .f) <| .c (9, .p) <| .c (11, .f) <| .c (12, .p) <| .c (13, .p) <| .c (14, .f) <| .n) (.c (6, .f) <| .t (.c (1, .e) <| .c (8, .f) <| .c (9, .p) <| .c (11, .f) <| .c (12, .p) <| .c (13, .p) <| .c (14, .f) <| .n) (.c (8, .f) <| .c (9, .p) <| .t (.c (1, .e) <| .c (11, .f) <| .c (12, .p) <| .c (13, .p) <| .c (14, .f) <| .n) (.c (11, .f) <| .c (12, .p) <| .c (1, .e) <| .c (13, .p) <| .c (14, .f) <| .n)))) [6, 8, 11, 14] K hK (by kernel_rfl) (by kernel_rfl) (by kernel_rfl) H
theorem dr76_0 (m : Nat) {Q : Exit → List AV → AH → Prop} {a : List AV} {h : AH} {id : Nat} (H : AX Try.prog m h [(⟨some 28, .fieldAddr 31 (.tmp 7) 1, none⟩, true),
  (⟨some 29, .load 28 (.tmp 28), none⟩, true),
  (⟨some 30, .move (.tmp 0), none⟩, true),
  (⟨some 31, .fieldAddr 31 (.tmp 7) 1, none⟩, true),
  (⟨some 32, .load 28 (.tmp 31), none⟩, true),
  (⟨some 33, .call { callee := .builtin .len, args := #[.tmp 32], argTypes := #[28] }, none⟩, true),
  (⟨some 35, .move (.tmp 0), none⟩, true),
  (⟨some 38, .move (.tmp 0), none⟩, true),
  (⟨some 34, .call { callee := .value (.func 78), args := #[.tmp 30, .tmp 33], argTypes := #[66, 3] }, none⟩, false),
  (⟨some 36, .call { callee := .value (.func 78), args := #[.tmp 35, .const (.int .i64 5)], argTypes := #[66, 3] }, none⟩, false),
  (⟨some 37, .binOp .sub 3 (.tmp 36) (.const (.int .i64 1)) 3, none⟩, true),
  (⟨some 39, .call { callee := .value (.func 78), args := #[.tmp 38, .const (.int .i64 8)], argTypes := #[66, 3] }, none⟩, false),
  (⟨some 40, .build 108 #[(0, .tmp 37), (1, .tmp 39)], none⟩, true),
  (⟨some 41, .indexAddr 28 (.tmp 29) (.tmp 34), none⟩, true),
  (⟨none, .store 108 (.tmp 41) (.tmp 40), none⟩, false)] (fun a' h' => Q .normal a' h') a h) : AI Try.prog (.raw (.region id rg76_0 true)) Q a h :=
  AI_draw [(0, true), (1, true), (2, true), (3, true), (4, true), (5, true), (7, true), (10, true), (6, false), (8, false), (9, true), (11, false), (12, true), (13, true), (14, false)] m (by kernel_rfl) (by kernel_rfl) (by kernel_rfl) H
theorem dz76_1 {h0 : AH} {L : List It} {Q : Exit → List AV → List It → Prop} {a : List AV} {id : Nat} (H : LX Try.prog ⟨[6, 8], []⟩ h0 L L (.c (⟨some 44, .fieldAddr 31 (.tmp 7) 2, none⟩, .p) <| .c (⟨some 45, .load 29 (.tmp 44), none⟩, .l) <| .c (⟨some 46, .move (.tmp 0), none⟩, .p) <| .c (⟨some 47, .call { callee := .value (.func 78), args := #[.tmp 46, .const (.int .i64 12)], argTypes := #[66, 3] }, none⟩, .e) <| .c (⟨some 48, .binOp .sub 3 (.tmp 47) (.const (.int .i64 1)) 3, none⟩, .p) <| .c (⟨some 49, .buildSlice 29 1 #[(0, .tmp 48)], none⟩, .e) <| .c (⟨some 50, .call { callee := .builtin .append, args := #[.tmp 45, .tmp 49], argTypes := #[29, 29] }, none⟩, .f) <| .c (⟨some 51, .fieldAddr 31 (.tmp 7) 2, none⟩, .p) <| .c (⟨none, .store 29 (.tmp 51) (.tmp 50), none⟩, .f) <| .n) Q a) : LI Try.prog h0 L (.raw (.region id rg76_1 true)) Q a :=
  LI_draw (.c (0, .p) <| .c (1, .l) <| .c (2, .p) <| .c (3, .e) <| .c (4, .p) <| .c (5, .e) <| .c (6, .f) <| .c (7, .p) <| .c (8, .f) <| .n) [6, 8] (by kernel_rfl) (by kernel_rfl) (by kernel_rfl) H
theorem db76_1 {h0 : AH} {L : List It} {Q : Exit → List AV → List It → Prop} {a : List AV} {id : Nat} (K : List (Nat × List AV)) (hK : ∀ x ∈ K, It.pt x.1 x.2 ∈ L) (H : LX Try.prog ⟨[3, 5, 6, 8], K⟩ h0 L L (.c (⟨some 44, .fieldAddr 31 (.tmp 7) 2, none⟩, .p) <| .c (⟨some 46, .move (.tmp 0), none⟩, .p) <| .t (.c (⟨some 45, .load 29 (.tmp 44), none⟩, .e) <| .c (⟨some 47, .call { callee := .value (.func 78), args := #[.tmp 46, .const (.int .i64 12)], argTypes := #[66, 3] }, none⟩, .f) <| .c (⟨some 48, .binOp .sub 3 (.tmp 47) (.const (.int .i64 1)) 3, none⟩, .p) <| .c (⟨some 49, .buildSlice 29 1 #[(0, .tmp 48)], none⟩, .f) <| .c (⟨some 50, .call { callee := .builtin .append, args := #[.tmp 45, .tmp 49], argTypes := #[29, 29] }, none⟩, .f) <| .c (⟨some 51, .fieldAddr 31 (.tmp 7) 2, none⟩, .p) <| .c (⟨none, .store 29 (.tmp 51) (.tmp 50), none⟩, .f) <| .n) (.c (⟨some 47, .call { callee := .value (.func 78), args := #[.tmp 46, .const (.int .i64 12)], argTypes := #[66, 3] }, none⟩, .f) <| .c (⟨some 48, .binOp .sub 3 (.tmp 47) (.const (.int .i64 1)) 3, none⟩, .p) <| .t (.c (⟨some 45, .load 29 (.tmp 44), none⟩, .e) <| .c (⟨some 49, .buildSlice 29 1 #[(0, .tmp 48)], none⟩, .f) <| .c (⟨some 50, .call { callee := .builtin .append, args := #[.tmp 45, .tmp 49], argTypes := #[29, 29] }, none⟩, .f) <| .c (⟨some 51, .fieldAddr 31 (.tmp 7) 2, none⟩, .p) <| .c (⟨none, .store 29 (.tmp 51) (.tmp 50), none⟩, .f) <| .n) (.c (⟨some 49, .buildSlice 29 1 #[(0, .tmp 48)], none⟩, .f) <| .c (⟨some 45, .load 29 (.tmp 44), none⟩, .e) <| .c (⟨some 50, .call { callee := .builtin .append, args := #[.tmp 45, .tmp 49], argTypes := #[29, 29] }, none⟩, .f) <| .c (⟨some 51, .fieldAddr 31 (.tmp 7) 2, none⟩, .p) <| .c (⟨none, .store 29 (.tmp 51) (.tmp 50), none⟩, .f) <| .n))) Q a) : LI Try.prog h0 L (.raw (.region id rg76_1 true)) Q a :=
  LI_drawK (.c (0, .p) <| .c (2, .p) <| .t (.c (1, .e) <| .c (3, .f) <| .c (4, .p) <| .c (5, .f) <| .c (6, .f) <| .c (7, .p) <| .c (8, .f) <| .n) (.c (3, .f) <| .c (4, .p) <| .t (.c (1, .e) <| .c (5, .f) <| .c (6, .f) <| .c (7, .p) <| .c (8, .f) <| .n) (.c (5, .f) <| .c (1, .e) <| .c (6, .f) <| .c (7, .p) <| .c (8, .f) <| .n))) [3, 5, 6, 8] K hK (by kernel_rfl) (by kernel_rfl) (by kernel_rfl) H
theorem dr76_1 (m : Nat) {Q : Exit → List AV → AH → Prop} {a : List AV} {h : AH} {id : Nat} (H : AX Try.prog m h [(⟨some 44, .fieldAddr 31 (.tmp 7) 2, none⟩, true),
  (⟨some 45, .load 29 (.tmp 44), none⟩, true),
  (⟨some 46, .move (.tmp 0), none⟩, true),
  (⟨some 47, .call { callee := .value (.func 78), args := #[.tmp 46, .const (.int .i64 12)], argTypes := #[66, 3] }, none⟩, false),
  (⟨some 48, .binOp .sub 3 (.tmp 47) (.const (.int .i64 1)) 3, none⟩, true),
  (⟨some 49, .buildSlice 29 1 #[(0, .tmp 48)], none⟩, false),
  (⟨some 50, .call { callee := .builtin .append, args := #[.tmp 45, .tmp 49], argTypes := #[29, 29] }, none⟩, false),
  (⟨some 51, .fieldAddr 31 (.tmp 7) 2, none⟩, true),
  (⟨none, .store 29 (.tmp 51) (.tmp 50), none⟩, false)] (fun a' h' => Q .normal a' h') a h) : AI Try.prog (.raw (.region id rg76_1 true)) Q a h :=
  AI_draw [(0, true), (1, true), (2, true), (3, false), (4, true), (5, false), (6, false), (7, true), (8, false)] m (by kernel_rfl) (by kernel_rfl) (by kernel_rfl) H
theorem dz76_2 {h0 : AH} {L : List It} {Q : Exit → List AV → List It → Prop} {a : List AV} {id : Nat} (H : LX Try.prog ⟨[], []⟩ h0 L L (.c (⟨some 81, .fieldAddr 31 (.tmp 7) 2, none⟩, .p) <| .c (⟨some 82, .load 29 (.tmp 81), none⟩, .l) <| .c (⟨some 83, .call { callee := .builtin .len, args := #[.tmp 82], argTypes := #[29] }, none⟩, .p) <| .c (⟨some 84, .move (.tmp 0), none⟩, .p) <| .c (⟨some 85, .call { callee := .value (.func 78), args := #[.tmp 84, .const (.int .i64 2)], argTypes := #[66, 3] }, none⟩, .e) <| .c (⟨some 86, .binOp .add 3 (.const (.int .i64 6)) (.tmp 85) 3, none⟩, .p) <| .c (⟨some 87, .binOp .lss 3 (.tmp 83) (.tmp 86) 3, none⟩, .p) <| .n) Q a) : LI Try.prog h0 L (.raw (.region id rg76_2 true)) Q a :=
  LI_draw (.c (0, .p) <| .c (1, .l) <| .c (2, .p) <| .c (3, .p) <| .c (4, .e) <| .c (5, .p) <| .c (6, .p) <| .n) [] (by kernel_rfl) (by kernel_rfl) (by kernel_rfl) H
theorem db76_2 {h0 : AH} {L : List It} {Q : Exit → List AV → List It → Prop} {a : List AV} {id : Nat} (K : List (Nat × List AV)) (hK : ∀ x ∈ K, It.pt x.1 x.2 ∈ L) (H : LX Try.prog ⟨[4], K⟩ h0 L L (.c (⟨some 81, .fieldAddr 31 (.tmp 7) 2, none⟩, .p) <| .c (⟨some 84, .move (.tmp 0), none⟩, .p) <| .t (.c (⟨some 82, .load 29 (.tmp 81), none⟩, .e) <| .c (⟨some 83, .call { callee := .builtin .len, args := #[.tmp 82], argTypes := #[29] }, none⟩, .p) <| .c (⟨some 85, .call { callee := .value (.func 78), args := #[.tmp 84, .const (.int .i64 2)], argTypes := #[66, 3] }, none⟩, .f) <| .c (⟨some 86, .binOp .add 3 (.const (.int .i64 6)) (.tmp 85) 3, none⟩, .p) <| .c (⟨some 87, .binOp .lss 3 (.tmp 83) (.tmp 86) 3, none⟩, .p) <| .n) (.c (⟨some 85, .call { callee := .value (.func 78), args := #[.tmp 84, .const (.int .i64 2)], argTypes := #[66, 3] }, none⟩, .f) <| .c (⟨some 86, .binOp .add 3 (.const (.int .i64 6)) (.tmp 85) 3, none⟩, .p) <| .c (⟨some 82, .load 29 (.tmp 81), none⟩, .e) <| .c (⟨some 83, .call { callee := .builtin .len, args := #[.tmp 82], argTypes := #[29] }, none⟩, .p) <| .c (⟨some 87, .binOp .lss 3 (.tmp 83) (.tmp 86) 3, none⟩, .p) <| .n)) Q a) : LI Try.prog h0 L (.raw (.region id rg76_2 true)) Q a :=
  LI_drawK (.c (0, .p) <| .c (3, .p) <| .t (.c (1, .e) <| .c (2, .p) <| .c (4, .f) <| .c (5, .p) <| .c (6, .p) <| .n) (.c (4, .f) <| .c (5, .p) <| .c (1, .e) <| .c (2, .p) <| .c (6, .p) <| .n)) [4] K hK (by kernel_rfl) (by kernel_rfl) (by kernel_rfl) H
theorem dr76_2 (m : Nat) {Q : Exit → List AV → AH → Prop} {a : List AV} {h : AH} {id : Nat} (H : AX Try.prog m h [(⟨some 81, .fieldAddr 31 (.tmp 7) 2, none⟩, true),
  (⟨some 82, .load 29 (.tmp 81), none⟩, true),
  (⟨some 83, .call { callee := .builtin .len, args := #[.tmp 82], argTypes := #[29] }, none⟩, true),
  (⟨some 84, .move (.tmp 0), none⟩, true),
  (⟨some 85, .call { callee := .value (.func 78), args := #[.tmp 84, .const (.int .i64 2)], argTypes := #[66, 3] }, none⟩, false),
  (⟨some 86, .binOp .add 3 (.const (.int .i64 6)) (.tmp 85) 3, none⟩, true),
  (⟨some 87, .binOp .lss 3 (.tmp 83) (.tmp 86) 3, none⟩, true)] (fun a' h' => Q .normal a' h') a h) : AI Try.prog (.raw (.region id rg76_2 true)) Q a h :=
  AI_draw [(0, true), (1, true), (2, true), (3, true), (4, false), (5, true), (6, true)] m (by kernel_rfl) (by kernel_rfl) (by kernel_rfl) H

noncomputable def rg29_0 : Array Oper := rawAt Try.f29 0
noncomputable def rg29_1 : Array Oper := rawAt Try.f29 1
noncomputable def rg29_2 : Array Oper := rawAt Try.f29 2
/-- spec.DrawComposePlans -/
noncomputable def c29 : IC :=
  (.seq
  (.reg [
    ⟨some 2, .alloc 31, none⟩,
    ⟨some 3, .alloc 31, none⟩])
  (.seq
  (.reg [
    ⟨some 7, .move (.tmp 0), none⟩,
    ⟨some 8, .build 69 #[(0, .tmp 7)], none⟩,
    ⟨some 9, .box 69 (.tmp 8), none⟩,
    ⟨some 4, .assign (.tmp 9), none⟩])
  (.seq
  (.reg [
    ⟨some 10, .move (.tmp 4), none⟩,
    ⟨some 11, .call { callee := .value (.func 76), args := #[.tmp 10, .const (.int .i64 3), .const (.int .i64 7)], argTypes := #[66, 3, 3] }, none⟩,
    ⟨some 5, .alloc 31, none⟩,
    ⟨none, .store 31 (.tmp 5) (.tmp 11), none⟩])
  (.seq
  (.reg [
    ⟨some 12, .move (.tmp 4), none⟩,
    ⟨some 13, .call { callee := .value (.func 76), args := #[.tmp 12, .const (.int .i64 3), .const (.int .i64 7)], argTypes := #[66, 3, 3] }, none⟩,
    ⟨some 6, .alloc 31, none⟩,
    ⟨none, .store 31 (.tmp 6) (.tmp 13), none⟩])
  (.seq
  (.seq
  (.reg [
    ⟨some 14, .move (.tmp 4), none⟩,
    ⟨some 15, .call { callee := .value (.func 77), args := #[.tmp 14, .const (.int .i64 4)], argTypes := #[66, 3] }, none⟩])
  (.cond (.tmp 15)
    (.seq
    (.raw (.region 5 rg29_0 true))
    .ret)
    .skip))
  (.seq
  (.block 0
  (.loop
    (.seq
    (.seq
    (.reg [
      ⟨some 18, .fieldAddr 31 (.tmp 5) 2, none⟩,
      ⟨some 19, .load 29 (.tmp 18), none⟩,
      ⟨some 20, .call { callee := .builtin .len, args := #[.tmp 19], argTypes := #[29] }, none⟩,
      ⟨some 21, .fieldAddr 31 (.tmp 6) 0, none⟩,
      ⟨some 22, .load 3 (.tmp 21), none⟩,
      ⟨some 23, .binOp .lss 3 (.tmp 20) (.tmp 22) 3, none⟩,
      ⟨some 24, .move (.tmp 23), none⟩,
      ⟨some 25, .fieldAddr 31 (.tmp 6) 0, some (24, true)⟩,
      ⟨some 26, .load 3 (.tmp 25), some (24, true)⟩,
      ⟨some 27, .binOp .leq 3 (.tmp 26) (.const (.int .i64 6)) 3, some (24, true)⟩,
      ⟨some 28, .pick (.tmp 24) (.tmp 27) (.const (.bool false)), none⟩])
    (.cond (.tmp 28)
      .skip
      (.exit 0)))
    (.block 1
    (.raw (.region 7 rg29_1 true))))))
  (.seq
  (.raw (.region 8 rg29_2 true))
  .ret)))))))
theorem hd29 : Try.f29.body.map dec = some c29 := by kernel_rfl
theorem e29 {R : AV → AH → Prop} {h : AH} (x0 : AV) (H : h.wf → AI Try.prog c29 (RetQ Try.prog [.cell 2 31, .cell 3 31] R) [x0, un, un, un, un, un, un, un, un, un, un, un, un, un, un, un, un, un, un, un, un, un, un, un, un, un, un, un, un, un, un, un, un, un, un, un, un, un, un, un, un, un, un, un, un, un, un, un, un, un, un, un, un, un, un] h) : AC Try.prog 29 [x0] h R :=
  AC_of' (rs := [.cell 2 31, .cell 3 31]) Try.func29 (by kernel_rfl) hd29 Try.ntmps29 rfl H
theorem dk29_0 {h0 : AH} {L : List It} {Q : Exit → List AV → List It → Prop} {a : List AV} {id : Nat} (K : List (Nat × List AV)) (hK : ∀ x ∈ K, It.pt x.1 x.2 ∈ L) (H : LX Try.prog ⟨[2, 3], K⟩ h0 L L (.c (⟨some 16, .load 31 (.tmp 5), none⟩, .l) <| .t (.c (⟨some 17, .load 31 (.tmp 6), none⟩, .e) <| .c (⟨none, .store 31 (.tmp 2) (.tmp 16), none⟩, .f) <| .c (⟨none, .store 31 (.tmp 3) (.tmp 17), none⟩, .f) <| .n) (.c (⟨none, .store 31 (.tmp 2) (.tmp 16), none⟩, .f) <| .c (⟨some 17, .load 31 (.tmp 6), none⟩, .e) <| .c (⟨none, .store 31 (.tmp 3) (.tmp 17), none⟩, .f) <| .n)) Q a) : LI Try.prog h0 L (.raw (.region id rg29_0 true)) Q a :=
  LI_drawK (.c (0, .l) <| .t (.c (1, .e) <| .c (2, .f) <| .c (3, .f) <| .n) (.c (2, .f) <| .c (1, .e) <| .c (3, .f) <| .n)) [2, 3] K hK (by kernel_rfl) (by kernel_rfl) (by kernel_rfl) H
theorem dr29_0 (m : Nat) {Q : Exit → List AV → AH → Prop} {a : List AV} {h : AH} {id : Nat} (H : AX Try.prog m h [(⟨some 16, .load 31 (.tmp 5), none⟩, true),
  (⟨some 17, .load 31 (.tmp 6), none⟩, true),
  (⟨none, .store 31 (.tmp 2) (.tmp 16), none⟩, false),
  (⟨none, .store 31 (.tmp 3) (.tmp 17), none⟩, false)] (fun a' h' => Q .normal a' h') a h) : AI Try.prog (.raw (.region id rg29_0 true)) Q a h :=
  AI_draw [(0, true), (1, true), (2, false), (3, false)] m (by kernel_rfl) (by kernel_rfl) (by kernel_rfl) H
theorem dz29_1 {h0 : AH} {L : List It} {Q : Exit → List AV → List It → Prop} {a : List AV} {id : Nat} (H : LX Try.prog ⟨[8, 10], []⟩ h0 L L (.c (⟨some 29, .fieldAddr 31 (.tmp 5) 2, none⟩, .p) <| .c (⟨some 30, .load 29 (.tmp 29), none⟩, .l) <| .c (⟨some 31, .move (.tmp 4), none⟩, .p) <| .c (⟨some 32, .fieldAddr 31 (.tmp 5) 0, none⟩, .p) <| .c (⟨some 33, .load 3 (.tmp 32), none⟩, .l) <| .c (⟨some 34, .call { callee := .value (.func 79), args := #[.tmp 33, .const (.int .i64 1)], argTypes := #[3, 3] }, none⟩, .e) <| .c (⟨some 35, .call { callee := .value (.func 78), args := #[.tmp 31, .tmp 34], argTypes := #[66, 3] }, none⟩, .e) <| .c (⟨some 36, .buildSlice 29 1 #[(0, .tmp 35)], none⟩, .e) <| .c (⟨some 37, .call { callee := .builtin .append, args := #[.tmp 30, .tmp 36], argTypes := #[29, 29] }, none⟩, .f) <| .c (⟨some 38, .fieldAddr 31 (.tmp 5) 2, none⟩, .p) <| .c (⟨none, .store 29 (.tmp 38) (.tmp 37), none⟩, .f) <| .n) Q a) : LI Try.prog h0 L (.raw (.region id rg29_1 true)) Q a :=
  LI_draw (.c (0, .p) <| .c (1, .l) <| .c (2, .p) <| .c (3, .p) <| .c (4, .l) <| .c (5, .e) <| .c (6, .e) <| .c (7, .e) <| .c (8, .f) <| .c (9, .p) <| .c (10, .f) <| .n) [8, 10] (by kernel_rfl) (by kernel_rfl) (by kernel_rfl) H
theorem db29_1 {h0 : AH} {L : List It} {Q : Exit → List AV → List It → Prop} {a : List AV} {id : Nat} (K : List (Nat × List AV)) (hK : ∀ x ∈ K, It.pt x.1 x.2 ∈ L) (H : LX Try.prog ⟨[5, 6, 7, 8, 10], K⟩ h0 L L (.c (⟨some 29, .fieldAddr 31 (.tmp 5) 2, none⟩, .p) <| .c (⟨some 31, .move (.tmp 4), none⟩, .p) <| .c (⟨some 32, .fieldAddr 31 (.tmp 5) 0, none⟩, .p) <| .c (⟨some 33, .load 3 (.tmp 32), none⟩, .l) <| .t (.c (⟨some 30, .load 29 (.tmp 29), none⟩, .e) <| .c (⟨some 34, .call { callee := .value (.func 79), args := #[.tmp 33, .const (.int .i64 1)], argTypes := #[3, 3] }, none⟩, .f) <| .c (⟨some 35, .call { callee := .value (.func 78), args := #[.tmp 31, .tmp 34], argTypes := #[66, 3] }, none⟩, .f) <| .c (⟨some 36, .buildSlice 29 1 #[(0, .tmp 35)], none⟩, .f) <| .c (⟨some 37, .call { callee := .builtin .append, args := #[.tmp 30, .tmp 36], argTypes := #[29, 29] }, none⟩, .f) <| .c (⟨some 38, .fieldAddr 31 (.tmp 5) 2, none⟩, .p) <| .c (⟨none, .store 29 (.tmp 38) (.tmp 37), none⟩, .f) <| .n) (.c (⟨some 34, .call { callee := .value (.func 79), args := #[.tmp 33, .const (.int .i64 1)], argTypes := #[3, 3] }, none⟩, .f) <| .t (.c (⟨some 30, .load 29 (.tmp 29), none⟩, .e) <| .c (⟨some 35, .call { callee := .value (.func 78), args := #[.tmp 31, .tmp 34], argTypes := #[66, 3] }, none⟩, .f) <| .c (⟨some 36, .buildSlice 29 1 #[(0, .tmp 35)], none⟩, .f) <| .c (⟨some 37, .call { callee := .builtin .append, args := #[.tmp 30, .tmp 36], argTypes := #[29, 29] }, none⟩, .f) <| .c (⟨some 38, .fieldAddr 31 (.tmp 5) 2, none⟩, .p) <| .c (⟨none, .store 29 (.tmp 38) (.tmp 37), none⟩, .f) <| .n) (.c (⟨some 35, .call { callee := .value (.func 78), args := #[.tmp 31, .tmp 34], argTypes := #[66, 3] }, none⟩, .f) <| .t (.c (⟨some 30, .load 29 (.tmp 29), none⟩, .e) <| .c (⟨some 36, .buildSlice 29 1 #[(0, .tmp 35)], none⟩, .f) <| .c (⟨some 37, .call { callee := .builtin .append, args := #[.tmp 30, .tmp 36], argTypes := #[29, 29] }, none⟩, .f) <| .c (⟨some 38, .fieldAddr 31 (.tmp 5) 2, none⟩, .p) <| .c (⟨none, .store 29 (.tmp 38) (.tmp 37), none⟩, .f) <| .n) (.c (⟨some 36, .buildSlice 29 1 #[(0, .tmp 35)], none⟩, .f) <| .c (⟨some 30, .load 29 (.tmp 29), none⟩, .e) <| .c (⟨some 37, .call { callee := .builtin .append, args := #[.tmp 30, .tmp 36], argTypes := #[29, 29] }, none⟩, .f) <| .c (⟨some 38, .fieldAddr 31 (.tmp 5) 2, none⟩, .p) <| .c (⟨none, .store 29 (.tmp 38) (.tmp 37), none⟩, .f) <| .n)))) Q a) : LI Try.prog h0 L (.raw (.region id rg29_1 true)) Q a :=
  LI_drawK (.c (0, .p) <| .c (2, .p) <| .c (3, .p) <| .c (4, .l) <| .t (.c (1, .e) <| .c (5, .f) <| .c (6, .f) <| .c (7, .f) <| .c (8, .f) <| .c (9, .p) <| .c (10, .f) <| .n) (.c (5, .f) <| .t (.c (1, .e) <| .c (6, .f) <| .c (7, .f) <| .c (8, .f) <| .c (9, .p) <| .c (10, .f) <| .n) (.c (6, .f) <| .t (.c (1, .e) <| .c (7, .f) <| .c (8, .f) <| .c (9, .p) <| .c (10, .f) <| .n) (.c (7, .f) <| .c (1, .e) <| .c (8, .f) <| .c (9, .p) <| .c (10, .f) <| .n)))) [5, 6, 7, 8, 10] K hK (by kernel_rfl) (by kernel_rfl) (by kernel_rfl) H
theorem dr29_1 (m : Nat) {Q : Exit → List AV → AH → Prop} {a : List AV} {h : AH} {id : Nat} (H : AX Try.prog m h [(⟨some 29, .fieldAddr 31 (.tmp 5) 2, none⟩, true),
  (⟨some 30, .load 29 (.tmp 29), none⟩, true),
  (⟨some 31, .move (.tmp 4), none⟩, true),
  (⟨some 32, .fieldAddr 31 (.tmp 5) 0, none⟩, true),
  (⟨some 33, .load 3 (.tmp 32), none⟩, true),
  (⟨some 34, .call { callee := .value (.func 79), args := #[.tmp 33, .const (.int .i64 1)], argTypes := #[3, 3] }, none⟩, false),
  (⟨some 35, .call { callee := .value (.func 78), args := #[.tmp 31, .tmp 34], argTypes := #[66, 3] }, none⟩, false),
  (⟨some 36, .buildSlice 29 1 #[(0, .tmp 35)], none⟩, false),
  (⟨some 37, .call { callee := .builtin .append, args := #[.tmp 30, .tmp 36], argTypes := #[29, 29] }, none⟩, false),
  (⟨some 38, .fieldAddr 31 (.tmp 5) 2, none⟩, true),
  (⟨none, .store 29 (.tmp 38) (.tmp 37), none⟩, false)] (fun a' h' => Q .normal a' h') a h) : AI Try.prog (.raw (.region id rg29_1 true)) Q a h :=
  AI_draw [(0, true), (1, true), (2, true), (3, true), (4, true), (5, false), (6, false), (7, false), (8, false), (9, true), (10, false)] m (by kernel_rfl) (by kernel_rfl) (by kernel_rfl) H
theorem dk29_2 {h0 : AH} {L : List It} {Q : Exit → List AV → List It → Prop} {a : List AV} {id : Nat} (K : List (Nat × List AV)) (hK : ∀ x ∈ K, It.pt x.1 x.2 ∈ L) (H : LX Try.prog ⟨[16, 17], K⟩ h0 L L (.c (⟨some 39, .fieldAddr 31 (.tmp 5) 0, none⟩, .p) <| .c (⟨some 40, .load 3 (.tmp 39), none⟩, .l) <| .c (⟨some 41, .fieldAddr 31 (.tmp 5) 1, none⟩, .p) <| .c (⟨some 42, .load 28 (.tmp 41), none⟩, .l) <| .c (⟨some 43, .fieldAddr 31 (.tmp 5) 2, none⟩, .p) <| .c (⟨some 44, .load 29 (.tmp 43), none⟩, .l) <| .c (⟨some 45, .fieldAddr 31 (.tmp 6) 0, none⟩, .p) <| .c (⟨some 46, .load 3 (.tmp 45), none⟩, .l) <| .c (⟨some 47, .fieldAddr 31 (.tmp 5) 2, none⟩, .p) <| .c (⟨some 48, .load 29 (.tmp 47), none⟩, .l) <| .c (⟨some 49, .call { callee := .builtin .len, args := #[.tmp 48], argTypes := #[29] }, none⟩, .p) <| .t (.c (⟨some 50, .call { callee := .value (.func 80), args := #[.tmp 46, .tmp 49], argTypes := #[3, 3] }, none⟩, .e) <| .t (.c (⟨some 51, .call { callee := .value (.func 79), args := #[.const (.int .i64 0), .tmp 50], argTypes := #[3, 3] }, none⟩, .e) <| .c (⟨some 52, .slice 29 (.tmp 44) none (some (.tmp 51)) none, none⟩, .p) <| .c (⟨some 53, .build 31 #[(0, .tmp 40), (1, .tmp 42), (2, .tmp 52)], none⟩, .p) <| .t (.c (⟨some 54, .load 31 (.tmp 6), none⟩, .e) <| .c (⟨none, .store 31 (.tmp 2) (.tmp 53), none⟩, .f) <| .c (⟨none, .store 31 (.tmp 3) (.tmp 54), none⟩, .f) <| .n) (.c (⟨none, .store 31 (.tmp 2) (.tmp 53), none⟩, .f) <| .c (⟨some 54, .load 31 (.tmp 6), none⟩, .e) <| .c (⟨none, .store 31 (.tmp 3) (.tmp 54), none⟩, .f) <| .n)) (.c (⟨some 54, .load 31 (.tmp 6), none⟩, .e) <| .c (⟨some 51, .call { callee := .value (.func 79), args := #[.const (.int .i64 0), .tmp 50], argTypes := #[3, 3] }, none⟩, .e) <| .c (⟨some 52, .slice 29 (.tmp 44) none (some (.tmp 51)) none, none⟩, .p) <| .c (⟨some 53, .build 31 #[(0, .tmp 40), (1, .tmp 42), (2, .tmp 52)], none⟩, .p) <| .c (⟨none, .store 31 (.tmp 2) (.tmp 53), none⟩, .f) <| .c (⟨none, .store 31 (.tmp 3) (.tmp 54), none⟩, .f) <| .n)) (.c (⟨some 54, .load 31 (.tmp 6), none⟩, .e) <| .c (⟨some 50, .call { callee := .value (.func 80), args := #[.tmp 46, .tmp 49], argTypes := #[3, 3] }, none⟩, .e) <| .c (⟨some 51, .call { callee := .value (.func 79), args := #[.const (.int .i64 0), .tmp 50], argTypes := #[3, 3] }, none⟩, .e) <| .c (⟨some 52, .slice 29 (.tmp 44) none (some (.tmp 51)) none, none⟩, .p) <| .c (⟨some 53, .build 31 #[(0, .tmp 40), (1, .tmp 42), (2, .tmp 52)], none⟩, .p) <| .c (⟨none, .store 31 (.tmp 2) (.tmp 53), none⟩, .f) <| .c (⟨none, .store 31 (.tmp 3) (.tmp 54), none⟩, .f) <| .n)) Q a) : LI Try.prog h0 L (.raw (.region id rg29_2 true)) Q a :=
  LI_drawK (.c (0, .p) <| .c (1, .l) <| .c (2, .p) <| .c (3, .l) <| .c (4, .p) <| .c (5, .l) <| .c (6, .p) <| .c (7, .l) <| .c (8, .p) <| .c (9, .l) <| .c (10, .p) <| .t (.c (11, .e) <| .t (.c (12, .e) <| .c (13, .p) <| .c (14, .p) <| .t (.c (15, .e) <| .c (16, .f) <| .c (17, .f) <| .n) (.c (16, .f) <| .c (15, .e) <| .c (17, .f) <| .n)) (.c (15, .e) <| .c (12, .e) <| .c (13, .p) <| .c (14, .p) <| .c (16, .f) <| .c (17, .f) <| .n)) (.c (15, .e) <| .c (11, .e) <| .c (12, .e) <| .c (13, .p) <| .c (14, .p) <| .c (16, .f) <| .c (17, .f) <| .n)) [16, 17] K hK (by kernel_rfl) (by kernel_rfl) (by kernel_rfl) H
theorem dr29_2 (m : Nat) {Q : Exit → List AV → AH → Prop} {a : List AV} {h : AH} {id : Nat} (H : AX Try.prog m h [(⟨some 39, .fieldAddr 31 (.tmp 5) 0, none⟩, true),
  (⟨some 40, .load 3 (.tmp 39), none⟩, true),
  (⟨some 41, .fieldAddr 31 (.tmp 5) 1, none⟩, true),
  (⟨some 42, .load 28 (.tmp 41), none⟩, true),
  (⟨some 43, .fieldAddr 31 (.tmp 5) 2, none⟩, true),
  (⟨some 44, .load 29 (.tmp 43), none⟩, true),
  (⟨some 45, .fieldAddr 31 (.tmp 6) 0, none⟩, true),
  (⟨some 46, .load 3 (.tmp 45), none⟩, true),
  (⟨some 47, .fieldAddr 31 (.tmp 5) 2, none⟩, true),
  (⟨some 48, .load 29 (.tmp 47), none⟩, true),
  (⟨some 49, .call { callee := .builtin .len, args := #[.tmp 48], argTypes := #[29] }, none⟩, true),
  (⟨some 54, .load 31 (.tmp 6), none⟩, true),
  (⟨some 50, .call { callee := .value (.func 80), args := #[.tmp 46, .tmp 49], argTypes := #[3, 3] }, none⟩, false),
  (⟨some 51, .call { callee := .value (.func 79), args := #[.const (.int .i64 0), .tmp 50], argTypes := #[3, 3] }, none⟩, false),
  (⟨some 52, .slice 29 (.tmp 44) none (some (.tmp 51)) none, none⟩, true),
  (⟨some 53, .build 31 #[(0, .tmp 40), (1, .tmp 42), (2, .tmp 52)], none⟩, true),
  (⟨none, .store 31 (.tmp 2) (.tmp 53), none⟩, false),
  (⟨none, .store 31 (.tmp 3) (.tmp 54), none⟩, false)] (fun a' h' => Q .normal a' h') a h) : AI Try.prog (.raw (.region id rg29_2 true)) Q a h :=
  AI_draw [(0, true), (1, true), (2, true), (3, true), (4, true), (5, true), (6, true), (7, true), (8, true), (9, true), (10, true), (15, true), (11, false), (12, false), (13, true), (14, true), (16, false), (17, false)] m (by kernel_rfl) (by kernel_rfl) (by kernel_rfl) H

/-- impl.in -/
def c104 : IC :=
  (.seq
  (.reg [
    ⟨some 6, .assign (.const (.bool false)), none⟩])
  (.seq
  (.reg [
    ⟨some 7, .move (.tmp 0), none⟩,
    ⟨some 8, .move (.tmp 1), none⟩,
    ⟨some 9, .binOp .geq 3 (.tmp 7) (.tmp 8) 3, none⟩,
    ⟨some 10, .move (.tmp 9), none⟩,
    ⟨some 11, .move (.tmp 0), some (10, true)⟩,
    ⟨some 12, .move (.tmp 2), some (10, true)⟩,
    ⟨some 13, .binOp .leq 3 (.tmp 11) (.tmp 12) 3, some (10, true)⟩,
    ⟨some 14, .pick (.tmp 10) (.tmp 13) (.const (.bool false)), none⟩,
    ⟨some 6, .assign (.tmp 14), none⟩])
  .ret))
theorem hd104 : Try.f104.body.map dec = some c104 := by kernel_rfl
theorem e104 {R : AV → AH → Prop} {h : AH} (x0 x1 x2 : AV) (H : h.wf → AI Try.prog c104 (RetQ Try.prog [.tmp 6] R) [x0, x1, x2, un, un, un, un, un, un, un, un, un, un, un, un] h) : AC Try.prog 104 [x0, x1, x2] h R :=
  AC_of' (rs := [.tmp 6]) Try.func104 (by kernel_rfl) hd104 Try.ntmps104 rfl H

/-- slices.IndexFunc[[]int,int] -/
def c143 : IC :=
  (.seq
  (.reg [
    ⟨some 4, .assign (.const (.int .i64 0)), none⟩])
  (.seq
  (.seq
  (.reg [
    ⟨some 6, .move (.tmp 0), none⟩,
    ⟨some 7, .call { callee := .builtin .len, args := #[.tmp 6], argTypes := #[29] }, none⟩,
    ⟨some 8, .move (.const (.int .i64 0)), none⟩])
  (.block 0
  (.loop
    (.seq
    (.reg [
      ⟨some 9, .binOp .lss 3 (.tmp 8) (.tmp 7) 3, none⟩])
    (.seq
    (.cond (.tmp 9)
      .skip
      (.exit 0))
    (.seq
    (.block 1
    (.seq
    (.reg [
      ⟨some 10, .move (.tmp 8), none⟩,
      ⟨some 5, .assign (.tmp 10), none⟩])
    (.seq
    (.reg [
      ⟨some 11, .move (.tmp 1), none⟩,
      ⟨some 12, .move (.tmp 0), none⟩,
      ⟨some 13, .move (.tmp 5), none⟩,
      ⟨some 14, .indexAddr 29 (.tmp 12) (.tmp 13), none⟩,
      ⟨some 15, .load 3 (.tmp 14), none⟩,
      ⟨some 16, .call { callee := .value (.tmp 11), args := #[.tmp 15], argTypes := #[3] }, none⟩])
    (.cond (.tmp 16)
      (.seq
      (.reg [
        ⟨some 17, .move (.tmp 5), none⟩,
        ⟨some 4, .assign (.tmp 17), none⟩])
      .ret)
      .skip))))
    (.reg [
      ⟨some 18, .binOp .add 3 (.tmp 8) (.const (.int .i64 1)) 3, none⟩,
      ⟨some 8, .move (.tmp 18), none⟩])))))))
  (.seq
  (.reg [
    ⟨some 4, .assign (.const (.int .i64 (-1))), none⟩])
  .ret)))
theorem hd143 : Try.f143.body.map dec = some c143 := by kernel_rfl
theorem e143 {R : AV → AH → Prop} {h : AH} (x0 x1 : AV) (H : h.wf → AI Try.prog c143 (RetQ Try.prog [.tmp 4] R) [x0, x1, un, un, un, un, un, un, un, un, un, un, un, un, un, un, un, un, un] h) : AC Try.prog 143 [x0, x1] h R :=
  AC_of' (rs := [.tmp 4]) Try.func143 (by kernel_rfl) hd143 Try.ntmps143 rfl H

/-- slices.ContainsFunc[[]int,int] -/
def c105 : IC :=
  (.seq
  (.reg [
    ⟨some 4, .assign (.const (.bool false)), none⟩])
  (.seq
  (.reg [
    ⟨some 5, .move (.tmp 0), none⟩,
    ⟨some 6, .move (.tmp 1), none⟩,
    ⟨some 7, .call { callee := .value (.func 143), args := #[.tmp 5, .tmp 6], argTypes := #[29, 24] }, none⟩,
    ⟨some 8, .binOp .geq 3 (.tmp 7) (.const (.int .i64 0)) 3, none⟩,
    ⟨some 4, .assign (.tmp 8), none⟩])
  .ret))
theorem hd105 : Try.f105.body.map dec = some c105 := by kernel_rfl
theorem e105 {R : AV → AH → Prop} {h : AH} (x0 x1 : AV) (H : h.wf → AI Try.prog c105 (RetQ Try.prog [.tmp 4] R) [x0, x1, un, un, un, un, un, un, un] h) : AC Try.prog 105 [x0, x1] h R :=
  AC_of' (rs := [.tmp 4]) Try.func105 (by kernel_rfl) hd105 Try.ntmps105 rfl H

noncomputable def rg115_0 : Array Oper := rawAt Try.f115 0
/-- (*impl.Plan).many -/
noncomputable def c115 : IC :=
  (.seq
  (.reg [
    ⟨some 2, .assign (.const (.int .i64 0)), none⟩])
  (.seq
  (.raw (.region 1 rg115_0 true))
  .ret))
theorem hd115 : Try.f115.body.map dec = some c115 := by kernel_rfl
theorem e115 {R : AV → AH → Prop} {h : AH} (x0 : AV) (H : h.wf → AI Try.prog c115 (RetQ Try.prog [.tmp 2] R) [x0, un, un, un, un, un, un, un, un, un, un, un, un] h) : AC Try.prog 115 [x0] h R :=
  AC_of' (rs := [.tmp 2]) Try.func115 (by kernel_rfl) hd115 Try.ntmps115 rfl H
theorem dz115_0 {h0 : AH} {L : List It} {Q : Exit → List AV → List It → Prop} {a : List AV} {id : Nat} (H : LX Try.prog ⟨[], []⟩ h0 L L (.c (⟨some 3, .move (.tmp 0), none⟩, .p) <| .c (⟨some 4, .nilCheck (.tmp 3), none⟩, .p) <| .c (⟨some 5, .fieldAddr 31 (.tmp 4) 0, none⟩, .p) <| .c (⟨some 6, .load 3 (.tmp 5), none⟩, .l) <| .c (⟨some 7, .move (.tmp 0), none⟩, .p) <| .c (⟨some 8, .nilCheck (.tmp 7), none⟩, .p) <| .c (⟨some 9, .fieldAddr 31 (.tmp 8) 1, none⟩, .p) <| .c (⟨some 10, .load 28 (.tmp 9), none⟩, .l) <| .c (⟨some 11, .call { callee := .builtin .len, args := #[.tmp 10], argTypes := #[28] }, none⟩, .p) <| .c (⟨some 12, .binOp .add 3 (.tmp 6) (.tmp 11) 3, none⟩, .p) <| .c (⟨some 2, .assign (.tmp 12), none⟩, .p) <| .n) Q a) : LI Try.prog h0 L (.raw (.region id rg115_0 true)) Q a :=
  LI_draw (.c (0, .p) <| .c (1, .p) <| .c (2, .p) <| .c (3, .l) <| .c (4, .p) <| .c (5, .p) <| .c (6, .p) <| .c (7, .l) <| .c (8, .p) <| .c (9, .p) <| .c (10, .p) <| .n) [] (by kernel_rfl) (by kernel_rfl) (by kernel_rfl) H
theorem dr115_0 (m : Nat) {Q : Exit → List AV → AH → Prop} {a : List AV} {h : AH} {id : Nat} (H : AX Try.prog m h [(⟨some 3, .move (.tmp 0), none⟩, true),
  (⟨some 4, .nilCheck (.tmp 3), none⟩, true),
  (⟨some 5, .fieldAddr 31 (.tmp 4) 0, none⟩, true),
  (⟨some 6, .load 3 (.tmp 5), none⟩, true),
  (⟨some 7, .move (.tmp 0), none⟩, true),
  (⟨some 8, .nilCheck (.tmp 7), none⟩, true),
  (⟨some 9, .fieldAddr 31 (.tmp 8) 1, none⟩, true),
  (⟨some 10, .load 28 (.tmp 9), none⟩, true),
  (⟨some 11, .call { callee := .builtin .len, args := #[.tmp 10], argTypes := #[28] }, none⟩, true),
  (⟨some 12, .binOp .add 3 (.tmp 6) (.tmp 11) 3, none⟩, true),
  (⟨some 2, .assign (.tmp 12), none⟩, true)] (fun a' h' => Q .normal a' h') a h) : AI Try.prog (.raw (.region id rg115_0 true)) Q a h :=
  AI_draw [(0, true), (1, true), (2, true), (3, true), (4, true), (5, true), (6, true), (7, true), (8, true), (9, true), (10, true)] m (by kernel_rfl) (by kernel_rfl) (by kernel_rfl) H

/-- (*impl.Plan).formed$1 -/
def c156 : IC :=
  (.seq
  (.reg [
    ⟨some 3, .assign (.const (.bool false)), none⟩])
  (.seq
  (.reg [
    ⟨some 4, .move (.tmp 0), none⟩,
    ⟨some 5, .load 87 (.tmp 1), none⟩,
    ⟨some 6, .call { callee := .value (.func 115), args := #[.tmp 5], argTypes := #[87] }, none⟩,
    ⟨some 7, .binOp .sub 3 (.tmp 6) (.const (.int .i64 1)) 3, none⟩,
    ⟨some 8, .call { callee := .value (.func 104), args := #[.tmp 4, .const (.int .i64 0), .tmp 7], argTypes := #[3, 3, 3] }, none⟩,
    ⟨some 9, .unOp .not 4 (.tmp 8), none⟩,
    ⟨some 3, .assign (.tmp 9), none⟩])
  .ret))
theorem hd156 : Try.f156.body.map dec = some c156 := by kernel_rfl
theorem e156 {R : AV → AH → Prop} {h : AH} (x0 x1 : AV) (H : h.wf → AI Try.prog c156 (RetQ Try.prog [.tmp 3] R) [x0, x1, un, un, un, un, un, un, un, un] h) : AC Try.prog 156 [x0, x1] h R :=
  AC_of' (rs := [.tmp 3]) Try.func156 (by kernel_rfl) hd156 Try.ntmps156 rfl H

noncomputable def rg131_0 : Array Oper := rawAt Try.f131 0
-- NO ORDER
/-- (*impl.Plan).formed -/
noncomputable def c131 : IC :=
  (.seq
  (.reg [
    ⟨some 1, .box 87 (.tmp 0), none⟩,
    ⟨some 2, .assign (.const (.bool false)), none⟩])
  (.seq
  (.seq
  (.reg [
    ⟨some 5, .load 87 (.tmp 1), none⟩,
    ⟨some 6, .nilCheck (.tmp 5), none⟩,
    ⟨some 7, .fieldAddr 31 (.tmp 6) 0, none⟩,
    ⟨some 8, .load 3 (.tmp 7), none⟩,
    ⟨some 9, .call { callee := .value (.func 104), args := #[.tmp 8, .const (.int .i64 1), .const (.int .i64 6)], argTypes := #[3, 3, 3] }, none⟩,
    ⟨some 10, .unOp .not 4 (.tmp 9), none⟩,
    ⟨some 11, .move (.tmp 10), none⟩,
    ⟨some 12, .load 87 (.tmp 1), some (11, false)⟩,
    ⟨some 13, .nilCheck (.tmp 12), some (11, false)⟩,
    ⟨some 14, .fieldAddr 31 (.tmp 13) 1, some (11, false)⟩,
    ⟨some 15, .load 28 (.tmp 14), some (11, false)⟩,
    ⟨some 16, .call { callee := .builtin .len, args := #[.tmp 15], argTypes := #[28] }, some (11, false)⟩,
    ⟨some 17, .binOp .gtr 3 (.tmp 16) (.const (.int .i64 40)) 3, some (11, false)⟩,
    ⟨some 18, .pick (.tmp 11) (.const (.bool true)) (.tmp 17), none⟩,
    ⟨some 19, .move (.tmp 18), none⟩,
    ⟨some 20, .load 87 (.tmp 1), some (19, false)⟩,
    ⟨some 21, .nilCheck (.tmp 20), some (19, false)⟩,
    ⟨some 22, .fieldAddr 31 (.tmp 21) 2, some (19, false)⟩,
    ⟨some 23, .load 29 (.tmp 22), some (19, false)⟩,
    ⟨some 24, .call { callee := .builtin .len, args := #[.tmp 23], argTypes := #[29] }, some (19, false)⟩,
    ⟨some 25, .binOp .gtr 3 (.tmp 24) (.const (.int .i64 6)) 3, some (19, false)⟩,
    ⟨some 26, .pick (.tmp 19) (.const (.bool true)) (.tmp 25), none⟩])
  (.cond (.tmp 26)
    (.seq
    (.reg [
      ⟨some 2, .assign (.const (.bool false)), none⟩])
    .ret)
    .skip))
  (.seq
  (.seq
  (.reg [
    ⟨some 27, .load 87 (.tmp 1), none⟩,
    ⟨some 28, .nilCheck (.tmp 27), none⟩,
    ⟨some 29, .fieldAddr 31 (.tmp 28) 1, none⟩,
    ⟨some 30, .load 28 (.tmp 29), none⟩,
    ⟨some 31, .call { callee := .builtin .len, args := #[.tmp 30], argTypes := #[28] }, none⟩,
    ⟨some 32, .move (.const (.int .i64 0)), none⟩])
  (.block 0
  (.loop
    (.seq
    (.reg [
      ⟨some 33, .binOp .lss 3 (.tmp 32) (.tmp 31) 3, none⟩])
    (.seq
    (.cond (.tmp 33)
      .skip
      (.exit 0))
    (.seq
    (.block 1
    (.seq
    (.reg [
      ⟨some 34, .move (.tmp 32), none⟩,
      ⟨some 35, .indexAddr 28 (.tmp 30) (.tmp 32), none⟩,
      ⟨some 36, .load 108 (.tmp 35), none⟩,
      ⟨some 4, .alloc 108, none⟩,
      ⟨some 3, .assign (.tmp 34), none⟩,
      ⟨none, .store 108 (.tmp 4) (.tmp 36), none⟩])
    (.seq
    (.raw (.region 6 rg131_0 true))
    (.cond (.tmp 57)
      (.seq
      (.reg [
        ⟨some 2, .assign (.const (.bool false)), none⟩])
      .ret)
      .skip))))
    (.reg [
      ⟨some 58, .binOp .add 3 (.tmp 32) (.const (.int .i64 1)) 3, none⟩,
      ⟨some 32, .move (.tmp 58), none⟩])))))))
  (.seq
  (.reg [
    ⟨some 59, .load 87 (.tmp 1), none⟩,
    ⟨some 60, .nilCheck (.tmp 59), none⟩,
    ⟨some 61, .fieldAddr 31 (.tmp 60) 2, none⟩,
    ⟨some 62, .load 29 (.tmp 61), none⟩,
    ⟨some 63, .makeFunc (.func 156) #[] #[.tmp 1], none⟩,
    ⟨some 64, .call { callee := .value (.func 105), args := #[.tmp 62, .tmp 63], argTypes := #[29, 24] }, none⟩,
    ⟨some 65, .unOp .not 4 (.tmp 64), none⟩,
    ⟨some 2, .assign (.tmp 65), none⟩])
  .ret))))
theorem hd131 : Try.f131.body.map dec = some c131 := by kernel_rfl
theorem e131 {R : AV → AH → Prop} {h : AH} (x0 : AV) (H : h.wf → AI Try.prog c131 (RetQ Try.prog [.tmp 2] R) [x0, un, un, un, un, un, un, un, un, un, un, un, un, un, un, un, un, un, un, un, un, un, un, un, un, un, un, un, un, un, un, un, un, un, un, un, un, un, un, un, un, un, un, un, un, un, un, un, un, un, un, un, un, un, un, un, un, un, un, un, un, un, un, un, un, un] h) : AC Try.prog 131 [x0] h R :=
  AC_of' (rs := [.tmp 2]) Try.func131 (by kernel_rfl) hd131 Try.ntmps131 rfl H
theorem dz131_0 {h0 : AH} {L : List It} {Q : Exit → List AV → List It → Prop} {a : List AV} {id : Nat} (H : LX Try.prog ⟨[], []⟩ h0 L L (.c (⟨some 37, .fieldAddr 108 (.tmp 4) 0, none⟩, .p) <| .c (⟨some 38, .load 3 (.tmp 37), none⟩, .l) <| .c (⟨some 39, .binOp .lss 3 (.tmp 38) (.const (.int .i64 0)) 3, none⟩, .p) <| .c (⟨some 40, .move (.tmp 39), none⟩, .p) <| .c (⟨some 41, .fieldAddr 108 (.tmp 4) 0, some (40, false)⟩, .p) <| .c (⟨some 42, .load 3 (.tmp 41), some (40, false)⟩, .l) <| .c (⟨some 43, .fieldAddr 108 (.tmp 4) 1, some (40, false)⟩, .p) <| .c (⟨some 44, .load 3 (.tmp 43), some (40, false)⟩, .l) <| .c (⟨some 45, .binOp .gtr 3 (.tmp 42) (.tmp 44) 3, some (40, false)⟩, .p) <| .c (⟨some 46, .pick (.tmp 40) (.const (.bool true)) (.tmp 45), none⟩, .p) <| .c (⟨some 47, .move (.tmp 46), none⟩, .p) <| .c (⟨some 48, .fieldAddr 108 (.tmp 4) 1, some (47, false)⟩, .p) <| .c (⟨some 49, .load 3 (.tmp 48), some (47, false)⟩, .l) <| .c (⟨some 50, .load 87 (.tmp 1), some (47, false)⟩, .l) <| .c (⟨some 51, .nilCheck (.tmp 50), some (47, false)⟩, .p) <| .c (⟨some 52, .fieldAddr 31 (.tmp 51) 0, some (47, false)⟩, .p) <| .c (⟨some 53, .load 3 (.tmp 52), some (47, false)⟩, .l) <| .c (⟨some 54, .move (.tmp 3), some (47, false)⟩, .p) <| .c (⟨some 55, .binOp .add 3 (.tmp 53) (.tmp 54) 3, some (47, false)⟩, .p) <| .c (⟨some 56, .binOp .geq 3 (.tmp 49) (.tmp 55) 3, some (47, false)⟩, .p) <| .c (⟨some 57, .pick (.tmp 47) (.const (.bool true)) (.tmp 56), none⟩, .p) <| .n) Q a) : LI Try.prog h0 L (.raw (.region id rg131_0 true)) Q a :=
  LI_draw (.c (0, .p) <| .c (1, .l) <| .c (2, .p) <| .c (3, .p) <| .c (4, .p) <| .c (5, .l) <| .c (6, .p) <| .c (7, .l) <| .c (8, .p) <| .c (9, .p) <| .c (10, .p) <| .c (11, .p) <| .c (12, .l) <| .c (13, .l) <| .c (14, .p) <| .c (15, .p) <| .c (16, .l) <| .c (17, .p) <| .c (18, .p) <| .c (19, .p) <| .c (20, .p) <| .n) [] (by kernel_rfl) (by kernel_rfl) (by kernel_rfl) H

/-- slices.IndexFunc[[][]int,[]int] -/
def c157 : IC :=
  (.seq
  (.reg [
    ⟨some 4, .assign (.const (.int .i64 0)), none⟩])
  (.seq
  (.seq
  (.reg [
    ⟨some 6, .move (.tmp 0), none⟩,
    ⟨some 7, .call { callee := .builtin .len, args := #[.tmp 6], argTypes := #[39] }, none⟩,
    ⟨some 8, .move (.const (.int .i64 0)), none⟩])
  (.block 0
  (.loop
    (.seq
    (.reg [
      ⟨some 9, .binOp .lss 3 (.tmp 8) (.tmp 7) 3, none⟩])
    (.seq
    (.cond (.tmp 9)
      .skip
      (.exit 0))
    (.seq
    (.block 1
    (.seq
    (.reg [
      ⟨some 10, .move (.tmp 8), none⟩,
      ⟨some 5, .assign (.tmp 10), none⟩])
    (.seq
    (.reg [
      ⟨some 11, .move (.tmp 1), none⟩,
      ⟨some 12, .move (.tmp 0), none⟩,
      ⟨some 13, .move (.tmp 5), none⟩,
      ⟨some 14, .indexAddr 39 (.tmp 12) (.tmp 13), none⟩,
      ⟨some 15, .load 29 (.tmp 14), none⟩,
      ⟨some 16, .call { callee := .value (.tmp 11), args := #[.tmp 15], argTypes := #[29] }, none⟩])
    (.cond (.tmp 16)
      (.seq
      (.reg [
        ⟨some 17, .move (.tmp 5), none⟩,
        ⟨some 4, .assign (.tmp 17), none⟩])
      .ret)
      .skip))))
    (.reg [
      ⟨some 18, .binOp .add 3 (.tmp 8) (.const (.int .i64 1)) 3, none⟩,
      ⟨some 8, .move (.tmp 18), none⟩])))))))
  (.seq
  (.reg [
    ⟨some 4, .assign (.const (.int .i64 (-1))), none⟩])
  .ret)))
theorem hd157 : Try.f157.body.map dec = some c157 := by kernel_rfl
theorem e157 {R : AV → AH → Prop} {h : AH} (x0 x1 : AV) (H : h.wf → AI Try.prog c157 (RetQ Try.prog [.tmp 4] R) [x0, x1, un, un, un, un, un, un, un, un, un, un, un, un, un, un, un, un, un] h) : AC Try.prog 157 [x0, x1] h R :=
  AC_of' (rs := [.tmp 4]) Try.func157 (by kernel_rfl) hd157 Try.ntmps157 rfl H

/-- slices.ContainsFunc[[][]int,[]int] -/
def c132 : IC :=
  (.seq
  (.reg [
    ⟨some 4, .assign (.const (.bool false)), none⟩])
  (.seq
  (.reg [
    ⟨some 5, .move (.tmp 0), none⟩,
    ⟨some 6, .move (.tmp 1), none⟩,
    ⟨some 7, .call { callee := .value (.func 157), args := #[.tmp 5, .tmp 6], argTypes := #[39, 54] }, none⟩,
    ⟨some 8, .binOp .geq 3 (.tmp 7) (.const (.int .i64 0)) 3, none⟩,
    ⟨some 4, .assign (.tmp 8), none⟩])
  .ret))
theorem hd132 : Try.f132.body.map dec = some c132 := by kernel_rfl
theorem e132 {R : AV → AH → Prop} {h : AH} (x0 x1 : AV) (H : h.wf → AI Try.prog c132 (RetQ Try.prog [.tmp 4] R) [x0, x1, un, un, un, un, un, un, un] h) : AC Try.prog 132 [x0, x1] h R :=
  AC_of' (rs := [.tmp 4]) Try.func132 (by kernel_rfl) hd132 Try.ntmps132 rfl H

/-- (*impl.Plan).exponents -/
def c133 : IC :=
  (.seq
  (.reg [
    ⟨some 2, .assign (.const (.slice none 0 0)), none⟩])
  (.seq
  (.reg [
    ⟨some 11, .buildSlice 39 0 #[], none⟩,
    ⟨some 3, .assign (.tmp 11), none⟩])
  (.seq
  (.seq
  (.reg [
    ⟨some 12, .move (.tmp 0), none⟩,
    ⟨some 13, .nilCheck (.tmp 12), none⟩,
    ⟨some 14, .fieldAddr 31 (.tmp 13) 0, none⟩,
    ⟨some 15, .load 3 (.tmp 14), none⟩,
    ⟨some 16, .move (.const (.int .i64 0)), none⟩])
  (.block 0
  (.loop
    (.seq
    (.reg [
      ⟨some 17, .binOp .lss 3 (.tmp 16) (.tmp 15) 3, none⟩])
    (.seq
    (.cond (.tmp 17)
      .skip
      (.exit 0))
    (.seq
    (.block 1
    (.seq
    (.reg [
      ⟨some 18, .move (.tmp 16), none⟩,
      ⟨some 4, .assign (.tmp 18), none⟩])
    (.seq
    (.reg [
      ⟨some 19, .move (.tmp 0), none⟩,
      ⟨some 20, .nilCheck (.tmp 19), none⟩,
      ⟨some 21, .fieldAddr 31 (.tmp 20) 0, none⟩,
      ⟨some 22, .load 3 (.tmp 21), none⟩,
      ⟨some 23, .makeSlice 29 (.tmp 22) (.tmp 22), none⟩,
      ⟨some 5, .assign (.tmp 23), none⟩])
    (.seq
    (.reg [
      ⟨some 24, .move (.tmp 5), none⟩,
      ⟨some 25, .move (.tmp 4), none⟩,
      ⟨some 26, .indexAddr 29 (.tmp 24) (.tmp 25), none⟩,
      ⟨none, .store 3 (.tmp 26) (.const (.int .i64 1)), none⟩])
    (.reg [
      ⟨some 27, .move (.tmp 3), none⟩,
      ⟨some 28, .move (.tmp 5), none⟩,
      ⟨some 29, .buildSlice 39 1 #[(0, .tmp 28)], none⟩,
      ⟨some 30, .call { callee := .builtin .append, args := #[.tmp 27, .tmp 29], argTypes := #[39, 39] }, none⟩,
      ⟨some 3, .assign (.tmp 30), none⟩])))))
    (.reg [
      ⟨some 31, .binOp .add 3 (.tmp 16) (.const (.int .i64 1)) 3, none⟩,
      ⟨some 16, .move (.tmp 31), none⟩])))))))
  (.seq
  (.seq
  (.reg [
    ⟨some 32, .move (.tmp 0), none⟩,
    ⟨some 33, .nilCheck (.tmp 32), none⟩,
    ⟨some 34, .fieldAddr 31 (.tmp 33) 1, none⟩,
    ⟨some 35, .load 28 (.tmp 34), none⟩,
    ⟨some 36, .call { callee := .builtin .len, args := #[.tmp 35], argTypes := #[28] }, none⟩,
    ⟨some 37, .move (.const (.int .i64 0)), none⟩])
  (.block 2
  (.loop
    (.seq
    (.reg [
      ⟨some 38, .binOp .lss 3 (.tmp 37) (.tmp 36) 3, none⟩])
    (.seq
    (.cond (.tmp 38)
      .skip
      (.exit 2))
    (.seq
    (.block 3
    (.seq
    (.reg [
      ⟨some 39, .indexAddr 28 (.tmp 35) (.tmp 37), none⟩,
      ⟨some 40, .load 108 (.tmp 39), none⟩,
      ⟨some 7, .alloc 108, none⟩,
      ⟨none, .store 108 (.tmp 7) (.tmp 40), none⟩])
    (.seq
    (.reg [
      ⟨some 41, .buildSlice 29 0 #[], none⟩,
      ⟨some 8, .assign (.tmp 41), none⟩])
    (.seq
    (.seq
    (.reg [
      ⟨some 42, .move (.tmp 3), none⟩,
      ⟨some 43, .fieldAddr 108 (.tmp 7) 0, none⟩,
      ⟨some 44, .load 3 (.tmp 43), none⟩,
      ⟨some 45, .indexAddr 39 (.tmp 42) (.tmp 44), none⟩,
      ⟨some 46, .load 29 (.tmp 45), none⟩,
      ⟨some 47, .call { callee := .builtin .len, args := #[.tmp 46], argTypes := #[29] }, none⟩,
      ⟨some 48, .move (.const (.int .i64 0)), none⟩])
    (.block 4
    (.loop
      (.seq
      (.reg [
        ⟨some 49, .binOp .lss 3 (.tmp 48) (.tmp 47) 3, none⟩])
      (.seq
      (.cond (.tmp 49)
        .skip
        (.exit 4))
      (.seq
      (.block 5
      (.seq
      (.reg [
        ⟨some 50, .move (.tmp 48), none⟩,
        ⟨some 51, .indexAddr 29 (.tmp 46) (.tmp 48), none⟩,
        ⟨some 52, .load 3 (.tmp 51), none⟩,
        ⟨some 9, .assign (.tmp 50), none⟩,
        ⟨some 10, .assign (.tmp 52), none⟩])
      (.reg [
        ⟨some 53, .move (.tmp 8), none⟩,
        ⟨some 54, .move (.tmp 10), none⟩,
        ⟨some 55, .move (.tmp 3), none⟩,
        ⟨some 56, .fieldAddr 108 (.tmp 7) 1, none⟩,
        ⟨some 57, .load 3 (.tmp 56), none⟩,
        ⟨some 58, .indexAddr 39 (.tmp 55) (.tmp 57), none⟩,
        ⟨some 59, .load 29 (.tmp 58), none⟩,
        ⟨some 60, .move (.tmp 9), none⟩,
        ⟨some 61, .indexAddr 29 (.tmp 59) (.tmp 60), none⟩,
        ⟨some 62, .load 3 (.tmp 61), none⟩,
        ⟨some 63, .binOp .add 3 (.tmp 54) (.tmp 62) 3, none⟩,
        ⟨some 64, .call { callee := .builtin .min, args := #[.tmp 63, .const (.int .i64 1000001)], argTypes := #[3, 3] }, none⟩,
        ⟨some 65, .buildSlice 29 1 #[(0, .tmp 64)], none⟩,
        ⟨some 66, .call { callee := .builtin .append, args := #[.tmp 53, .tmp 65], argTypes := #[29, 29] }, none⟩,
        ⟨some 8, .assign (.tmp 66), none⟩])))
      (.reg [
        ⟨some 67, .binOp .add 3 (.tmp 48) (.const (.int .i64 1)) 3, none⟩,
        ⟨some 48, .move (.tmp 67), none⟩])))))))
    (.reg [
      ⟨some 68, .move (.tmp 3), none⟩,
      ⟨some 69, .move (.tmp 8), none⟩,
      ⟨some 70, .buildSlice 39 1 #[(0, .tmp 69)], none⟩,
      ⟨some 71, .call { callee := .builtin .append, args := #[.tmp 68, .tmp 70], argTypes := #[39, 39] }, none⟩,
      ⟨some 3, .assign (.tmp 71), none⟩])))))
    (.reg [
      ⟨some 72, .binOp .add 3 (.tmp 37) (.const (.int .i64 1)) 3, none⟩,
      ⟨some 37, .move (.tmp 72), none⟩])))))))
  (.seq
  (.reg [
    ⟨some 73, .move (.tmp 3), none⟩,
    ⟨some 2, .assign (.tmp 73), none⟩])
  .ret)))))
theorem hd133 : Try.f133.body.map dec = some c133 := by kernel_rfl
theorem e133 {R : AV → AH → Prop} {h : AH} (x0 : AV) (H : h.wf → AI Try.prog c133 (RetQ Try.prog [.tmp 2] R) [x0, un, un, un, un, un, un, un, un, un, un, un, un, un, un, un, un, un, un, un, un, un, un, un, un, un, un, un, un, un, un, un, un, un, un, un, un, un, un, un, un, un, un, un, un, un, un, un, un, un, un, un, un, un, un, un, un, un, un, un, un, un, un, un, un, un, un, un, un, un, un, un, un, un] h) : AC Try.prog 133 [x0] h R :=
  AC_of' (rs := [.tmp 2]) Try.func133 (by kernel_rfl) hd133 Try.ntmps133 rfl H

/-- slices.Max[[]int,int] -/
def c107 : IC :=
  (.seq
  (.reg [
    ⟨some 2, .assign (.const (.int .i64 0)), none⟩])
  (.seq
  (.seq
  (.reg [
    ⟨some 5, .move (.tmp 0), none⟩,
    ⟨some 6, .call { callee := .builtin .len, args := #[.tmp 5], argTypes := #[29] }, none⟩,
    ⟨some 7, .binOp .lss 3 (.tmp 6) (.const (.int .i64 1)) 3, none⟩])
  (.cond (.tmp 7)
    (.reg [
      ⟨some 8, .makeInterface 9 (.const (.string { data := #[115, 108, 105, 99, 101, 115, 46, 77, 97, 120, 58, 32, 101, 109, 112, 116, 121, 32, 108, 105, 115, 116] })), none⟩,
      ⟨none, .panic (.tmp 8), none⟩])
    .skip))
  (.seq
  (.reg [
    ⟨some 9, .move (.tmp 0), none⟩,
    ⟨some 10, .indexAddr 29 (.tmp 9) (.const (.int .i64 0)), none⟩,
    ⟨some 11, .load 3 (.tmp 10), none⟩,
    ⟨some 3, .assign (.tmp 11), none⟩])
  (.seq
  (.seq
  (.reg [
    ⟨some 4, .assign (.const (.int .i64 1)), none⟩])
  (.block 0
  (.loop
    (.seq
    (.seq
    (.reg [
      ⟨some 12, .move (.tmp 4), none⟩,
      ⟨some 13, .move (.tmp 0), none⟩,
      ⟨some 14, .call { callee := .builtin .len, args := #[.tmp 13], argTypes := #[29] }, none⟩,
      ⟨some 15, .binOp .lss 3 (.tmp 12) (.tmp 14) 3, none⟩])
    (.cond (.tmp 15)
      .skip
      (.exit 0)))
    (.seq
    (.block 1
    (.reg [
      ⟨some 18, .move (.tmp 3), none⟩,
      ⟨some 19, .move (.tmp 0), none⟩,
      ⟨some 20, .move (.tmp 4), none⟩,
      ⟨some 21, .indexAddr 29 (.tmp 19) (.tmp 20), none⟩,
      ⟨some 22, .load 3 (.tmp 21), none⟩,
      ⟨some 23, .call { callee := .builtin .max, args := #[.tmp 18, .tmp 22], argTypes := #[3, 3] }, none⟩,
      ⟨some 3, .assign (.tmp 23), none⟩]))
    (.reg [
      ⟨some 16, .move (.tmp 4), none⟩,
      ⟨some 17, .binOp .add 3 (.tmp 16) (.const (.int .i64 1)) 3, none⟩,
      ⟨some 4, .assign (.tmp 17), none⟩]))))))
  (.seq
  (.reg [
    ⟨some 24, .move (.tmp 3), none⟩,
    ⟨some 2, .assign (.tmp 24), none⟩])
  .ret)))))
theorem hd107 : Try.f107.body.map dec = some c107 := by kernel_rfl
theorem e107 {R : AV → AH → Prop} {h : AH} (x0 : AV) (H : h.wf → AI Try.prog c107 (RetQ Try.prog [.tmp 2] R) [x0, un, un, un, un, un, un, un, un, un, un, un, un, un, un, un, un, un, un, un, un, un, un, un, un] h) : AC Try.prog 107 [x0] h R :=
  AC_of' (rs := [.tmp 2]) Try.func107 (by kernel_rfl) hd107 Try.ntmps107 rfl H

/-- impl.IsPlan$1 -/
def c134 : IC :=
  (.seq
  (.reg [
    ⟨some 2, .assign (.const (.bool false)), none⟩])
  (.seq
  (.reg [
    ⟨some 3, .move (.tmp 0), none⟩,
    ⟨some 4, .call { callee := .value (.func 107), args := #[.tmp 3], argTypes := #[29] }, none⟩,
    ⟨some 5, .binOp .gtr 3 (.tmp 4) (.const (.int .i64 1000000)) 3, none⟩,
    ⟨some 2, .assign (.tmp 5), none⟩])
  .ret))
theorem hd134 : Try.f134.body.map dec = some c134 := by kernel_rfl
theorem e134 {R : AV → AH → Prop} {h : AH} (x0 : AV) (H : h.wf → AI Try.prog c134 (RetQ Try.prog [.tmp 2] R) [x0, un, un, un, un, un] h) : AC Try.prog 134 [x0] h R :=
  AC_of' (rs := [.tmp 2]) Try.func134 (by kernel_rfl) hd134 Try.ntmps134 rfl H

/-- impl.IsPlan -/
def c81 : IC :=
  (.seq
  (.reg [
    ⟨some 1, .box 31 (.tmp 0), none⟩,
    ⟨some 2, .assign (.const (.bool false)), none⟩])
  (.seq
  (.reg [
    ⟨some 3, .call { callee := .value (.func 131), args := #[.tmp 1], argTypes := #[31] }, none⟩,
    ⟨some 4, .move (.tmp 3), none⟩,
    ⟨some 5, .call { callee := .value (.func 133), args := #[.tmp 1], argTypes := #[31] }, some (4, true)⟩,
    ⟨some 6, .call { callee := .value (.func 132), args := #[.tmp 5, .func 134], argTypes := #[39, 54] }, some (4, true)⟩,
    ⟨some 7, .unOp .not 4 (.tmp 6), some (4, true)⟩,
    ⟨some 8, .pick (.tmp 4) (.tmp 7) (.const (.bool false)), none⟩,
    ⟨some 2, .assign (.tmp 8), none⟩])
  .ret))
theorem hd81 : Try.f81.body.map dec = some c81 := by kernel_rfl
theorem e81 {R : AV → AH → Prop} {h : AH} (x0 : AV) (H : h.wf → AI Try.prog c81 (RetQ Try.prog [.tmp 2] R) [x0, un, un, un, un, un, un, un, un] h) : AC Try.prog 81 [x0] h R :=
  AC_of' (rs := [.tmp 2]) Try.func81 (by kernel_rfl) hd81 Try.ntmps81 rfl H

/-- impl.told -/
def c68 : IC :=
  (.seq
  (.reg [
    ⟨some 1, .box 31 (.tmp 0), none⟩,
    ⟨some 2, .alloc 31, none⟩,
    ⟨some 3, .assign (.const (.bool false)), none⟩])
  (.seq
  (.seq
  (.reg [
    ⟨some 4, .load 31 (.tmp 1), none⟩,
    ⟨some 5, .call { callee := .value (.func 81), args := #[.tmp 4], argTypes := #[31] }, none⟩,
    ⟨some 6, .unOp .not 4 (.tmp 5), none⟩])
  (.cond (.tmp 6)
    (.seq
    (.reg [
      ⟨some 7, .build 31 #[], none⟩,
      ⟨none, .store 31 (.tmp 2) (.tmp 7), none⟩,
      ⟨some 3, .assign (.const (.bool false)), none⟩])
    .ret)
    .skip))
  (.seq
  (.reg [
    ⟨some 8, .load 31 (.tmp 1), none⟩,
    ⟨none, .store 31 (.tmp 2) (.tmp 8), none⟩,
    ⟨some 3, .assign (.const (.bool true)), none⟩])
  .ret)))
theorem hd68 : Try.f68.body.map dec = some c68 := by kernel_rfl
theorem e68 {R : AV → AH → Prop} {h : AH} (x0 : AV) (H : h.wf → AI Try.prog c68 (RetQ Try.prog [.cell 2 31, .tmp 3] R) [x0, un, un, un, un, un, un, un, un] h) : AC Try.prog 68 [x0] h R :=
  AC_of' (rs := [.cell 2 31, .tmp 3]) Try.func68 (by kernel_rfl) hd68 Try.ntmps68 rfl H

/-- slices.Clone[[]impl.Step,impl.Step] -/
def c114 : IC :=
  (.seq
  (.reg [
    ⟨some 2, .assign (.const (.slice none 0 0)), none⟩])
  (.seq
  (.seq
  (.reg [
    ⟨some 3, .move (.tmp 0), none⟩,
    ⟨some 4, .binOp .eql 28 (.tmp 3) (.const (.slice none 0 0)) 28, none⟩])
  (.cond (.tmp 4)
    (.seq
    (.reg [
      ⟨some 2, .assign (.const (.slice none 0 0)), none⟩])
    .ret)
    .skip))
  (.seq
  (.reg [
    ⟨some 5, .buildSlice 28 0 #[], none⟩,
    ⟨some 6, .move (.tmp 0), none⟩,
    ⟨some 7, .call { callee := .builtin .append, args := #[.tmp 5, .tmp 6], argTypes := #[28, 28] }, none⟩,
    ⟨some 2, .assign (.tmp 7), none⟩])
  .ret)))
theorem hd114 : Try.f114.body.map dec = some c114 := by kernel_rfl
theorem e114 {R : AV → AH → Prop} {h : AH} (x0 : AV) (H : h.wf → AI Try.prog c114 (RetQ Try.prog [.tmp 2] R) [x0, un, un, un, un, un, un, un] h) : AC Try.prog 114 [x0] h R :=
  AC_of' (rs := [.tmp 2]) Try.func114 (by kernel_rfl) hd114 Try.ntmps114 rfl H

/-- slices.Clone[[]int,int] -/
def c135 : IC :=
  (.seq
  (.reg [
    ⟨some 2, .assign (.const (.slice none 0 0)), none⟩])
  (.seq
  (.seq
  (.reg [
    ⟨some 3, .move (.tmp 0), none⟩,
    ⟨some 4, .binOp .eql 29 (.tmp 3) (.const (.slice none 0 0)) 29, none⟩])
  (.cond (.tmp 4)
    (.seq
    (.reg [
      ⟨some 2, .assign (.const (.slice none 0 0)), none⟩])
    .ret)
    .skip))
  (.seq
  (.reg [
    ⟨some 5, .buildSlice 29 0 #[], none⟩,
    ⟨some 6, .move (.tmp 0), none⟩,
    ⟨some 7, .call { callee := .builtin .append, args := #[.tmp 5, .tmp 6], argTypes := #[29, 29] }, none⟩,
    ⟨some 2, .assign (.tmp 7), none⟩])
  .ret)))
theorem hd135 : Try.f135.body.map dec = some c135 := by kernel_rfl
theorem e135 {R : AV → AH → Prop} {h : AH} (x0 : AV) (H : h.wf → AI Try.prog c135 (RetQ Try.prog [.tmp 2] R) [x0, un, un, un, un, un, un, un] h) : AC Try.prog 135 [x0] h R :=
  AC_of' (rs := [.tmp 2]) Try.func135 (by kernel_rfl) hd135 Try.ntmps135 rfl H

noncomputable def rg82_0 : Array Oper := rawAt Try.f82 0
/-- impl.clonePlan -/
noncomputable def c82 : IC :=
  (.seq
  (.reg [
    ⟨some 1, .box 31 (.tmp 0), none⟩,
    ⟨some 2, .alloc 31, none⟩])
  (.seq
  (.raw (.region 1 rg82_0 true))
  .ret))
theorem hd82 : Try.f82.body.map dec = some c82 := by kernel_rfl
theorem e82 {R : AV → AH → Prop} {h : AH} (x0 : AV) (H : h.wf → AI Try.prog c82 (RetQ Try.prog [.cell 2 31] R) [x0, un, un, un, un, un, un, un, un, un, un, un] h) : AC Try.prog 82 [x0] h R :=
  AC_of' (rs := [.cell 2 31]) Try.func82 (by kernel_rfl) hd82 Try.ntmps82 rfl H
theorem dz82_0 {h0 : AH} {L : List It} {Q : Exit → List AV → List It → Prop} {a : List AV} {id : Nat} (H : LX Try.prog ⟨[9], []⟩ h0 L L (.c (⟨some 3, .fieldAddr 31 (.tmp 1) 0, none⟩, .p) <| .c (⟨some 4, .load 3 (.tmp 3), none⟩, .l) <| .c (⟨some 5, .fieldAddr 31 (.tmp 1) 1, none⟩, .p) <| .c (⟨some 6, .load 28 (.tmp 5), none⟩, .l) <| .c (⟨some 8, .fieldAddr 31 (.tmp 1) 2, none⟩, .p) <| .c (⟨some 9, .load 29 (.tmp 8), none⟩, .l) <| .c (⟨some 7, .call { callee := .value (.func 114), args := #[.tmp 6], argTypes := #[28] }, none⟩, .e) <| .c (⟨some 10, .call { callee := .value (.func 135), args := #[.tmp 9], argTypes := #[29] }, none⟩, .e) <| .c (⟨some 11, .build 31 #[(0, .tmp 4), (1, .tmp 7), (2, .tmp 10)], none⟩, .p) <| .c (⟨none, .store 31 (.tmp 2) (.tmp 11), none⟩, .f) <| .n) Q a) : LI Try.prog h0 L (.raw (.region id rg82_0 true)) Q a :=
  LI_draw (.c (0, .p) <| .c (1, .l) <| .c (2, .p) <| .c (3, .l) <| .c (5, .p) <| .c (6, .l) <| .c (4, .e) <| .c (7, .e) <| .c (8, .p) <| .c (9, .f) <| .n) [9] (by kernel_rfl) (by kernel_rfl) (by kernel_rfl) H
theorem db82_0 {h0 : AH} {L : List It} {Q : Exit → List AV → List It → Prop} {a : List AV} {id : Nat} (K : List (Nat × List AV)) (hK : ∀ x ∈ K, It.pt x.1 x.2 ∈ L) (H : LX Try.prog ⟨[4, 7, 9], K⟩ h0 L L (.c (⟨some 3, .fieldAddr 31 (.tmp 1) 0, none⟩, .p) <| .c (⟨some 4, .load 3 (.tmp 3), none⟩, .kp) <| .c (⟨some 5, .fieldAddr 31 (.tmp 1) 1, none⟩, .p) <| .c (⟨some 6, .load 28 (.tmp 5), none⟩, .l) <| .c (⟨some 8, .fieldAddr 31 (.tmp 1) 2, none⟩, .p) <| .t (.c (⟨some 7, .call { callee := .value (.func 114), args := #[.tmp 6], argTypes := #[28] }, none⟩, .f) <| .c (⟨some 9, .load 29 (.tmp 8), none⟩, .e) <| .c (⟨some 10, .call { callee := .value (.func 135), args := #[.tmp 9], argTypes := #[29] }, none⟩, .f) <| .c (⟨some 11, .build 31 #[(0, .tmp 4), (1, .tmp 7), (2, .tmp 10)], none⟩, .p) <| .c (⟨none, .store 31 (.tmp 2) (.tmp 11), none⟩, .f) <| .n) (.c (⟨some 9, .load 29 (.tmp 8), none⟩, .e) <| .c (⟨some 7, .call { callee := .value (.func 114), args := #[.tmp 6], argTypes := #[28] }, none⟩, .f) <| .c (⟨some 10, .call { callee := .value (.func 135), args := #[.tmp 9], argTypes := #[29] }, none⟩, .f) <| .c (⟨some 11, .build 31 #[(0, .tmp 4), (1, .tmp 7), (2, .tmp 10)], none⟩, .p) <| .c (⟨none, .store 31 (.tmp 2) (.tmp 11), none⟩, .f) <| .n)) Q a) : LI Try.prog h0 L (.raw (.region id rg82_0 true)) Q a :=
  LI_drawK (.c (0, .p) <| .c (1, .kp) <| .c (2, .p) <| .c (3, .l) <| .c (5, .p) <| .t (.c (4, .f) <| .c (6, .e) <| .c (7, .f) <| .c (8, .p) <| .c (9, .f) <| .n) (.c (6, .e) <| .c (4, .f) <| .c (7, .f) <| .c (8, .p) <| .c (9, .f) <| .n)) [4, 7, 9] K hK (by kernel_rfl) (by kernel_rfl) (by kernel_rfl) H
theorem dr82_0 (m : Nat) {Q : Exit → List AV → AH → Prop} {a : List AV} {h : AH} {id : Nat} (H : AX Try.prog m h [(⟨some 3, .fieldAddr 31 (.tmp 1) 0, none⟩, true),
  (⟨some 4, .load 3 (.tmp 3), none⟩, true),
  (⟨some 5, .fieldAddr 31 (.tmp 1) 1, none⟩, true),
  (⟨some 6, .load 28 (.tmp 5), none⟩, true),
  (⟨some 8, .fieldAddr 31 (.tmp 1) 2, none⟩, true),
  (⟨some 9, .load 29 (.tmp 8), none⟩, true),
  (⟨some 7, .call { callee := .value (.func 114), args := #[.tmp 6], argTypes := #[28] }, none⟩, false),
  (⟨some 10, .call { callee := .value (.func 135), args := #[.tmp 9], argTypes := #[29] }, none⟩, false),
  (⟨some 11, .build 31 #[(0, .tmp 4), (1, .tmp 7), (2, .tmp 10)], none⟩, true),
  (⟨none, .store 31 (.tmp 2) (.tmp 11), none⟩, false)] (fun a' h' => Q .normal a' h') a h) : AI Try.prog (.raw (.region id rg82_0 true)) Q a h :=
  AI_draw [(0, true), (1, true), (2, true), (3, true), (5, true), (6, true), (4, false), (7, false), (8, true), (9, false)] m (by kernel_rfl) (by kernel_rfl) (by kernel_rfl) H

/-- impl.renamed -/
def c83 : IC :=
  (.seq
  (.reg [
    ⟨some 4, .assign (.const (.slice none 0 0)), none⟩])
  (.seq
  (.reg [
    ⟨some 8, .buildSlice 29 0 #[], none⟩,
    ⟨some 5, .assign (.tmp 8), none⟩])
  (.seq
  (.seq
  (.reg [
    ⟨some 9, .move (.tmp 0), none⟩,
    ⟨some 10, .call { callee := .builtin .len, args := #[.tmp 9], argTypes := #[29] }, none⟩,
    ⟨some 11, .move (.const (.int .i64 0)), none⟩])
  (.block 0
  (.loop
    (.seq
    (.reg [
      ⟨some 12, .binOp .lss 3 (.tmp 11) (.tmp 10) 3, none⟩])
    (.seq
    (.cond (.tmp 12)
      .skip
      (.exit 0))
    (.seq
    (.block 1
    (.seq
    (.reg [
      ⟨some 13, .indexAddr 29 (.tmp 9) (.tmp 11), none⟩,
      ⟨some 14, .load 3 (.tmp 13), none⟩,
      ⟨some 7, .assign (.tmp 14), none⟩])
    (.reg [
      ⟨some 15, .move (.tmp 5), none⟩,
      ⟨some 16, .move (.tmp 1), none⟩,
      ⟨some 17, .move (.tmp 7), none⟩,
      ⟨some 18, .indexAddr 29 (.tmp 16) (.tmp 17), none⟩,
      ⟨some 19, .load 3 (.tmp 18), none⟩,
      ⟨some 20, .buildSlice 29 1 #[(0, .tmp 19)], none⟩,
      ⟨some 21, .call { callee := .builtin .append, args := #[.tmp 15, .tmp 20], argTypes := #[29, 29] }, none⟩,
      ⟨some 5, .assign (.tmp 21), none⟩])))
    (.reg [
      ⟨some 22, .binOp .add 3 (.tmp 11) (.const (.int .i64 1)) 3, none⟩,
      ⟨some 11, .move (.tmp 22), none⟩])))))))
  (.seq
  (.reg [
    ⟨some 23, .move (.tmp 5), none⟩,
    ⟨some 4, .assign (.tmp 23), none⟩])
  .ret))))
theorem hd83 : Try.f83.body.map dec = some c83 := by kernel_rfl
theorem e83 {R : AV → AH → Prop} {h : AH} (x0 x1 : AV) (H : h.wf → AI Try.prog c83 (RetQ Try.prog [.tmp 4] R) [x0, x1, un, un, un, un, un, un, un, un, un, un, un, un, un, un, un, un, un, un, un, un, un, un] h) : AC Try.prog 83 [x0, x1] h R :=
  AC_of' (rs := [.tmp 4]) Try.func83 (by kernel_rfl) hd83 Try.ntmps83 rfl H

/-- impl.step -/
def c116 : IC :=
  (.seq
  (.reg [
    ⟨some 4, .alloc 108, none⟩])
  (.seq
  (.reg [
    ⟨some 5, .move (.tmp 0), none⟩,
    ⟨some 6, .move (.tmp 1), none⟩,
    ⟨some 7, .call { callee := .builtin .min, args := #[.tmp 5, .tmp 6], argTypes := #[3, 3] }, none⟩,
    ⟨some 8, .move (.tmp 0), none⟩,
    ⟨some 9, .move (.tmp 1), none⟩,
    ⟨some 10, .call { callee := .builtin .max, args := #[.tmp 8, .tmp 9], argTypes := #[3, 3] }, none⟩,
    ⟨some 11, .build 108 #[(0, .tmp 7), (1, .tmp 10)], none⟩,
    ⟨none, .store 108 (.tmp 4) (.tmp 11), none⟩])
  .ret))
theorem hd116 : Try.f116.body.map dec = some c116 := by kernel_rfl
theorem e116 {R : AV → AH → Prop} {h : AH} (x0 x1 : AV) (H : h.wf → AI Try.prog c116 (RetQ Try.prog [.cell 4 108] R) [x0, x1, un, un, un, un, un, un, un, un, un, un] h) : AC Try.prog 116 [x0, x1] h R :=
  AC_of' (rs := [.cell 4 108]) Try.func116 (by kernel_rfl) hd116 Try.ntmps116 rfl H

noncomputable def rg84_0 : Array Oper := rawAt Try.f84 0
/-- (*impl.Plan).behind -/
noncomputable def c84 : IC :=
  (.seq
  (.reg [
    ⟨some 6, .assign (.const (.slice none 0 0)), none⟩])
  (.seq
  (.reg [
    ⟨some 10, .move (.tmp 2), none⟩,
    ⟨some 11, .call { callee := .value (.func 135), args := #[.tmp 10], argTypes := #[29] }, none⟩,
    ⟨some 7, .assign (.tmp 11), none⟩])
  (.seq
  (.seq
  (.reg [
    ⟨some 12, .move (.tmp 1), none⟩,
    ⟨some 13, .nilCheck (.tmp 12), none⟩,
    ⟨some 14, .fieldAddr 31 (.tmp 13) 1, none⟩,
    ⟨some 15, .load 28 (.tmp 14), none⟩,
    ⟨some 16, .call { callee := .builtin .len, args := #[.tmp 15], argTypes := #[28] }, none⟩,
    ⟨some 17, .move (.const (.int .i64 0)), none⟩])
  (.block 0
  (.loop
    (.seq
    (.reg [
      ⟨some 18, .binOp .lss 3 (.tmp 17) (.tmp 16) 3, none⟩])
    (.seq
    (.cond (.tmp 18)
      .skip
      (.exit 0))
    (.seq
    (.block 1
    (.seq
    (.reg [
      ⟨some 19, .indexAddr 28 (.tmp 15) (.tmp 17), none⟩,
      ⟨some 20, .load 108 (.tmp 19), none⟩,
      ⟨some 9, .alloc 108, none⟩,
      ⟨none, .store 108 (.tmp 9) (.tmp 20), none⟩])
    (.seq
    (.reg [
      ⟨some 21, .move (.tmp 7), none⟩,
      ⟨some 22, .move (.tmp 0), none⟩,
      ⟨some 23, .call { callee := .value (.func 115), args := #[.tmp 22], argTypes := #[87] }, none⟩,
      ⟨some 24, .buildSlice 29 1 #[(0, .tmp 23)], none⟩,
      ⟨some 25, .call { callee := .builtin .append, args := #[.tmp 21, .tmp 24], argTypes := #[29, 29] }, none⟩,
      ⟨some 7, .assign (.tmp 25), none⟩])
    (.raw (.region 6 rg84_0 true)))))
    (.reg [
      ⟨some 46, .binOp .add 3 (.tmp 17) (.const (.int .i64 1)) 3, none⟩,
      ⟨some 17, .move (.tmp 46), none⟩])))))))
  (.seq
  (.reg [
    ⟨some 47, .move (.tmp 7), none⟩,
    ⟨some 6, .assign (.tmp 47), none⟩])
  .ret))))
theorem hd84 : Try.f84.body.map dec = some c84 := by kernel_rfl
theorem e84 {R : AV → AH → Prop} {h : AH} (x0 x1 x2 : AV) (H : h.wf → AI Try.prog c84 (RetQ Try.prog [.tmp 6] R) [x0, x1, x2, un, un, un, un, un, un, un, un, un, un, un, un, un, un, un, un, un, un, un, un, un, un, un, un, un, un, un, un, un, un, un, un, un, un, un, un, un, un, un, un, un, un, un, un, un] h) : AC Try.prog 84 [x0, x1, x2] h R :=
  AC_of' (rs := [.tmp 6]) Try.func84 (by kernel_rfl) hd84 Try.ntmps84 rfl H
theorem dz84_0 {h0 : AH} {L : List It} {Q : Exit → List AV → List It → Prop} {a : List AV} {id : Nat} (H : LX Try.prog ⟨[17, 20], []⟩ h0 L L (.c (⟨some 26, .move (.tmp 0), none⟩, .p) <| .c (⟨some 27, .move (.tmp 0), none⟩, .p) <| .c (⟨some 28, .nilCheck (.tmp 27), none⟩, .p) <| .c (⟨some 29, .fieldAddr 31 (.tmp 28) 1, none⟩, .p) <| .c (⟨some 30, .load 28 (.tmp 29), none⟩, .l) <| .c (⟨some 31, .move (.tmp 7), none⟩, .p) <| .c (⟨some 32, .fieldAddr 108 (.tmp 9) 0, none⟩, .p) <| .c (⟨some 33, .load 3 (.tmp 32), none⟩, .l) <| .c (⟨some 34, .indexAddr 29 (.tmp 31) (.tmp 33), none⟩, .p) <| .c (⟨some 35, .load 3 (.tmp 34), none⟩, .l) <| .c (⟨some 36, .move (.tmp 7), none⟩, .p) <| .c (⟨some 37, .fieldAddr 108 (.tmp 9) 1, none⟩, .p) <| .c (⟨some 38, .load 3 (.tmp 37), none⟩, .l) <| .c (⟨some 39, .indexAddr 29 (.tmp 36) (.tmp 38), none⟩, .p) <| .c (⟨some 40, .load 3 (.tmp 39), none⟩, .l) <| .c (⟨some 41, .call { callee := .value (.func 116), args := #[.tmp 35, .tmp 40], argTypes := #[3, 3] }, none⟩, .e) <| .c (⟨some 42, .buildSlice 28 1 #[(0, .tmp 41)], none⟩, .e) <| .c (⟨some 43, .call { callee := .builtin .append, args := #[.tmp 30, .tmp 42], argTypes := #[28, 28] }, none⟩, .f) <| .c (⟨some 44, .nilCheck (.tmp 26), none⟩, .p) <| .c (⟨some 45, .fieldAddr 31 (.tmp 44) 1, none⟩, .p) <| .c (⟨none, .store 28 (.tmp 45) (.tmp 43), none⟩, .f) <| .n) Q a) : LI Try.prog h0 L (.raw (.region id rg84_0 true)) Q a :=
  LI_draw (.c (0, .p) <| .c (1, .p) <| .c (2, .p) <| .c (3, .p) <| .c (4, .l) <| .c (5, .p) <| .c (6, .p) <| .c (7, .l) <| .c (8, .p) <| .c (9, .l) <| .c (10, .p) <| .c (11, .p) <| .c (12, .l) <| .c (13, .p) <| .c (14, .l) <| .c (15, .e) <| .c (16, .e) <| .c (17, .f) <| .c (18, .p) <| .c (19, .p) <| .c (20, .f) <| .n) [17, 20] (by kernel_rfl) (by kernel_rfl) (by kernel_rfl) H
theorem db84_0 {h0 : AH} {L : List It} {Q : Exit → List AV → List It → Prop} {a : List AV} {id : Nat} (K : List (Nat × List AV)) (hK : ∀ x ∈ K, It.pt x.1 x.2 ∈ L) (H : LX Try.prog ⟨[15, 16, 17, 20], K⟩ h0 L L (.c (⟨some 26, .move (.tmp 0), none⟩, .p) <| .c (⟨some 27, .move (.tmp 0), none⟩, .p) <| .c (⟨some 28, .nilCheck (.tmp 27), none⟩, .p) <| .c (⟨some 29, .fieldAddr 31 (.tmp 28) 1, none⟩, .p) <| .c (⟨some 31, .move (.tmp 7), none⟩, .p) <| .c (⟨some 32, .fieldAddr 108 (.tmp 9) 0, none⟩, .p) <| .c (⟨some 33, .load 3 (.tmp 32), none⟩, .l) <| .c (⟨some 34, .indexAddr 29 (.tmp 31) (.tmp 33), none⟩, .p) <| .c (⟨some 35, .load 3 (.tmp 34), none⟩, .l) <| .c (⟨some 36, .move (.tmp 7), none⟩, .p) <| .c (⟨some 37, .fieldAddr 108 (.tmp 9) 1, none⟩, .p) <| .c (⟨some 38, .load 3 (.tmp 37), none⟩, .l) <| .c (⟨some 39, .indexAddr 29 (.tmp 36) (.tmp 38), none⟩, .p) <| .c (⟨some 40, .load 3 (.tmp 39), none⟩, .l) <| .t (.c (⟨some 30, .load 28 (.tmp 29), none⟩, .e) <| .c (⟨some 41, .call { callee := .value (.func 116), args := #[.tmp 35, .tmp 40], argTypes := #[3, 3] }, none⟩, .f) <| .c (⟨some 42, .buildSlice 28 1 #[(0, .tmp 41)], none⟩, .f) <| .c (⟨some 43, .call { callee := .builtin .append, args := #[.tmp 30, .tmp 42], argTypes := #[28, 28] }, none⟩, .f) <| .c (⟨some 44, .nilCheck (.tmp 26), none⟩, .p) <| .c (⟨some 45, .fieldAddr 31 (.tmp 44) 1, none⟩, .p) <| .c (⟨none, .store 28 (.tmp 45) (.tmp 43), none⟩, .f) <| .n) (.c (⟨some 41, .call { callee := .value (.func 116), args := #[.tmp 35, .tmp 40], argTypes := #[3, 3] }, none⟩, .f) <| .t (.c (⟨some 30, .load 28 (.tmp 29), none⟩, .e) <| .c (⟨some 42, .buildSlice 28 1 #[(0, .tmp 41)], none⟩, .f) <| .c (⟨some 43, .call { callee := .builtin .append, args := #[.tmp 30, .tmp 42], argTypes := #[28, 28] }, none⟩, .f) <| .c (⟨some 44, .nilCheck (.tmp 26), none⟩, .p) <| .c (⟨some 45, .fieldAddr 31 (.tmp 44) 1, none⟩, .p) <| .c (⟨none, .store 28 (.tmp 45) (.tmp 43), none⟩, .f) <| .n) (.c (⟨some 42, .buildSlice 28 1 #[(0, .tmp 41)], none⟩, .f) <| .c (⟨some 30, .load 28 (.tmp 29), none⟩, .e) <| .c (⟨some 43, .call { callee := .builtin .append, args := #[.tmp 30, .tmp 42], argTypes := #[28, 28] }, none⟩, .f) <| .c (⟨some 44, .nilCheck (.tmp 26), none⟩, .p) <| .c (⟨some 45, .fieldAddr 31 (.tmp 44) 1, none⟩, .p) <| .c (⟨none, .store 28 (.tmp 45) (.tmp 43), none⟩, .f) <| .n))) Q a) : LI Try.prog h0 L (.raw (.region id rg84_0 true)) Q a :=
  LI_drawK (.c (0, .p) <| .c (1, .p) <| .c (2, .p) <| .c (3, .p) <| .c (5, .p) <| .c (6, .p) <| .c (7, .l) <| .c (8, .p) <| .c (9, .l) <| .c (10, .p) <| .c (11, .p) <| .c (12, .l) <| .c (13, .p) <| .c (14, .l) <| .t (.c (4, .e) <| .c (15, .f) <| .c (16, .f) <| .c (17, .f) <| .c (18, .p) <| .c (19, .p) <| .c (20, .f) <| .n) (.c (15, .f) <| .t (.c (4, .e) <| .c (16, .f) <| .c (17, .f) <| .c (18, .p) <| .c (19, .p) <| .c (20, .f) <| .n) (.c (16, .f) <| .c (4, .e) <| .c (17, .f) <| .c (18, .p) <| .c (19, .p) <| .c (20, .f) <| .n))) [15, 16, 17, 20] K hK (by kernel_rfl) (by kernel_rfl) (by kernel_rfl) H
theorem dr84_0 (m : Nat) {Q : Exit → List AV → AH → Prop} {a : List AV} {h : AH} {id : Nat} (H : AX Try.prog m h [(⟨some 26, .move (.tmp 0), none⟩, true),
  (⟨some 27, .move (.tmp 0), none⟩, true),
  (⟨some 28, .nilCheck (.tmp 27), none⟩, true),
  (⟨some 29, .fieldAddr 31 (.tmp 28) 1, none⟩, true),
  (⟨some 30, .load 28 (.tmp 29), none⟩, true),
  (⟨some 31, .move (.tmp 7), none⟩, true),
  (⟨some 32, .fieldAddr 108 (.tmp 9) 0, none⟩, true),
  (⟨some 33, .load 3 (.tmp 32), none⟩, true),
  (⟨some 34, .indexAddr 29 (.tmp 31) (.tmp 33), none⟩, true),
  (⟨some 35, .load 3 (.tmp 34), none⟩, true),
  (⟨some 36, .move (.tmp 7), none⟩, true),
  (⟨some 37, .fieldAddr 108 (.tmp 9) 1, none⟩, true),
  (⟨some 38, .load 3 (.tmp 37), none⟩, true),
  (⟨some 39, .indexAddr 29 (.tmp 36) (.tmp 38), none⟩, true),
  (⟨some 40, .load 3 (.tmp 39), none⟩, true),
  (⟨some 41, .call { callee := .value (.func 116), args := #[.tmp 35, .tmp 40], argTypes := #[3, 3] }, none⟩, false),
  (⟨some 42, .buildSlice 28 1 #[(0, .tmp 41)], none⟩, false),
  (⟨some 43, .call { callee := .builtin .append, args := #[.tmp 30, .tmp 42], argTypes := #[28, 28] }, none⟩, false),
  (⟨some 44, .nilCheck (.tmp 26), none⟩, true),
  (⟨some 45, .fieldAddr 31 (.tmp 44) 1, none⟩, true),
  (⟨none, .store 28 (.tmp 45) (.tmp 43), none⟩, false)] (fun a' h' => Q .normal a' h') a h) : AI Try.prog (.raw (.region id rg84_0 true)) Q a h :=
  AI_draw [(0, true), (1, true), (2, true), (3, true), (4, true), (5, true), (6, true), (7, true), (8, true), (9, true), (10, true), (11, true), (12, true), (13, true), (14, true), (15, false), (16, false), (17, false), (18, true), (19, true), (20, false)] m (by kernel_rfl) (by kernel_rfl) (by kernel_rfl) H

noncomputable def rg30_0 : Array Oper := rawAt Try.f30 0
/-- impl.ComposePlans -/
noncomputable def c30 : IC :=
  (.seq
  (.reg [
    ⟨some 2, .box 31 (.tmp 0), none⟩,
    ⟨some 3, .box 31 (.tmp 1), none⟩,
    ⟨some 4, .alloc 31, none⟩,
    ⟨some 5, .assign (.const (.bool false)), none⟩])
  (.seq
  (.seq
  (.reg [
    ⟨some 7, .load 31 (.tmp 2), none⟩,
    ⟨some 8, .call { callee := .value (.func 81), args := #[.tmp 7], argTypes := #[31] }, none⟩,
    ⟨some 9, .unOp .not 4 (.tmp 8), none⟩,
    ⟨some 10, .move (.tmp 9), none⟩,
    ⟨some 11, .load 31 (.tmp 3), some (10, false)⟩,
    ⟨some 12, .call { callee := .value (.func 81), args := #[.tmp 11], argTypes := #[31] }, some (10, false)⟩,
    ⟨some 13, .unOp .not 4 (.tmp 12), some (10, false)⟩,
    ⟨some 14, .pick (.tmp 10) (.const (.bool true)) (.tmp 13), none⟩,
    ⟨some 15, .move (.tmp 14), none⟩,
    ⟨some 16, .fieldAddr 31 (.tmp 2) 2, some (15, false)⟩,
    ⟨some 17, .load 29 (.tmp 16), some (15, false)⟩,
    ⟨some 18, .call { callee := .builtin .len, args := #[.tmp 17], argTypes := #[29] }, some (15, false)⟩,
    ⟨some 19, .fieldAddr 31 (.tmp 3) 0, some (15, false)⟩,
    ⟨some 20, .load 3 (.tmp 19), some (15, false)⟩,
    ⟨some 21, .binOp .neq 3 (.tmp 18) (.tmp 20) 3, some (15, false)⟩,
    ⟨some 22, .pick (.tmp 15) (.const (.bool true)) (.tmp 21), none⟩])
  (.cond (.tmp 22)
    (.seq
    (.reg [
      ⟨some 23, .build 31 #[], none⟩,
      ⟨none, .store 31 (.tmp 4) (.tmp 23), none⟩,
      ⟨some 5, .assign (.const (.bool false)), none⟩])
    .ret)
    .skip))
  (.seq
  (.reg [
    ⟨some 24, .load 31 (.tmp 2), none⟩,
    ⟨some 25, .call { callee := .value (.func 82), args := #[.tmp 24], argTypes := #[31] }, none⟩,
    ⟨some 6, .alloc 31, none⟩,
    ⟨none, .store 31 (.tmp 6) (.tmp 25), none⟩])
  (.seq
  (.raw (.region 4 rg30_0 true))
  (.seq
  (.reg [
    ⟨some 33, .load 31 (.tmp 6), none⟩,
    ⟨some 34, .call { callee := .value (.func 68), args := #[.tmp 33], argTypes := #[31] }, none⟩,
    ⟨some 35, .extract (.tmp 34) 0, none⟩,
    ⟨some 36, .extract (.tmp 34) 1, none⟩,
    ⟨none, .store 31 (.tmp 4) (.tmp 35), none⟩,
    ⟨some 5, .assign (.tmp 36), none⟩])
  .ret)))))
theorem hd30 : Try.f30.body.map dec = some c30 := by kernel_rfl
theorem e30 {R : AV → AH → Prop} {h : AH} (x0 x1 : AV) (H : h.wf → AI Try.prog c30 (RetQ Try.prog [.cell 4 31, .tmp 5] R) [x0, x1, un, un, un, un, un, un, un, un, un, un, un, un, un, un, un, un, un, un, un, un, un, un, un, un, un, un, un, un, un, un, un, un, un, un, un] h) : AC Try.prog 30 [x0, x1] h R :=
  AC_of' (rs := [.cell 4 31, .tmp 5]) Try.func30 (by kernel_rfl) hd30 Try.ntmps30 rfl H
theorem dz30_0 {h0 : AH} {L : List It} {Q : Exit → List AV → List It → Prop} {a : List AV} {id : Nat} (H : LX Try.prog ⟨[7], []⟩ h0 L L (.c (⟨some 26, .fieldAddr 31 (.tmp 3) 2, none⟩, .p) <| .c (⟨some 27, .load 29 (.tmp 26), none⟩, .l) <| .c (⟨some 28, .fieldAddr 31 (.tmp 2) 2, none⟩, .p) <| .c (⟨some 29, .load 29 (.tmp 28), none⟩, .l) <| .c (⟨some 30, .call { callee := .value (.func 84), args := #[.tmp 6, .tmp 3, .tmp 29], argTypes := #[31, 87, 29] }, none⟩, .e) <| .c (⟨some 31, .call { callee := .value (.func 83), args := #[.tmp 27, .tmp 30], argTypes := #[29, 29] }, none⟩, .e) <| .c (⟨some 32, .fieldAddr 31 (.tmp 6) 2, none⟩, .p) <| .c (⟨none, .store 29 (.tmp 32) (.tmp 31), none⟩, .f) <| .n) Q a) : LI Try.prog h0 L (.raw (.region id rg30_0 true)) Q a :=
  LI_draw (.c (0, .p) <| .c (1, .l) <| .c (2, .p) <| .c (3, .l) <| .c (4, .e) <| .c (5, .e) <| .c (6, .p) <| .c (7, .f) <| .n) [7] (by kernel_rfl) (by kernel_rfl) (by kernel_rfl) H
theorem db30_0 {h0 : AH} {L : List It} {Q : Exit → List AV → List It → Prop} {a : List AV} {id : Nat} (K : List (Nat × List AV)) (hK : ∀ x ∈ K, It.pt x.1 x.2 ∈ L) (H : LX Try.prog ⟨[4, 5, 7], K⟩ h0 L L (.c (⟨some 26, .fieldAddr 31 (.tmp 3) 2, none⟩, .p) <| .c (⟨some 28, .fieldAddr 31 (.tmp 2) 2, none⟩, .p) <| .c (⟨some 29, .load 29 (.tmp 28), none⟩, .l) <| .t (.c (⟨some 27, .load 29 (.tmp 26), none⟩, .e) <| .c (⟨some 30, .call { callee := .value (.func 84), args := #[.tmp 6, .tmp 3, .tmp 29], argTypes := #[31, 87, 29] }, none⟩, .f) <| .c (⟨some 31, .call { callee := .value (.func 83), args := #[.tmp 27, .tmp 30], argTypes := #[29, 29] }, none⟩, .f) <| .c (⟨some 32, .fieldAddr 31 (.tmp 6) 2, none⟩, .p) <| .c (⟨none, .store 29 (.tmp 32) (.tmp 31), none⟩, .f) <| .n) (.c (⟨some 30, .call { callee := .value (.func 84), args := #[.tmp 6, .tmp 3, .tmp 29], argTypes := #[31, 87, 29] }, none⟩, .f) <| .c (⟨some 27, .load 29 (.tmp 26), none⟩, .e) <| .c (⟨some 31, .call { callee := .value (.func 83), args := #[.tmp 27, .tmp 30], argTypes := #[29, 29] }, none⟩, .f) <| .c (⟨some 32, .fieldAddr 31 (.tmp 6) 2, none⟩, .p) <| .c (⟨none, .store 29 (.tmp 32) (.tmp 31), none⟩, .f) <| .n)) Q a) : LI Try.prog h0 L (.raw (.region id rg30_0 true)) Q a :=
  LI_drawK (.c (0, .p) <| .c (2, .p) <| .c (3, .l) <| .t (.c (1, .e) <| .c (4, .f) <| .c (5, .f) <| .c (6, .p) <| .c (7, .f) <| .n) (.c (4, .f) <| .c (1, .e) <| .c (5, .f) <| .c (6, .p) <| .c (7, .f) <| .n)) [4, 5, 7] K hK (by kernel_rfl) (by kernel_rfl) (by kernel_rfl) H
theorem dr30_0 (m : Nat) {Q : Exit → List AV → AH → Prop} {a : List AV} {h : AH} {id : Nat} (H : AX Try.prog m h [(⟨some 26, .fieldAddr 31 (.tmp 3) 2, none⟩, true),
  (⟨some 27, .load 29 (.tmp 26), none⟩, true),
  (⟨some 28, .fieldAddr 31 (.tmp 2) 2, none⟩, true),
  (⟨some 29, .load 29 (.tmp 28), none⟩, true),
  (⟨some 30, .call { callee := .value (.func 84), args := #[.tmp 6, .tmp 3, .tmp 29], argTypes := #[31, 87, 29] }, none⟩, false),
  (⟨some 31, .call { callee := .value (.func 83), args := #[.tmp 27, .tmp 30], argTypes := #[29, 29] }, none⟩, false),
  (⟨some 32, .fieldAddr 31 (.tmp 6) 2, none⟩, true),
  (⟨none, .store 29 (.tmp 32) (.tmp 31), none⟩, false)] (fun a' h' => Q .normal a' h') a h) : AI Try.prog (.raw (.region id rg30_0 true)) Q a h :=
  AI_draw [(0, true), (1, true), (2, true), (3, true), (4, false), (5, false), (6, true), (7, false)] m (by kernel_rfl) (by kernel_rfl) (by kernel_rfl) H

/-- spec.l1In -/
def c100 : IC :=
  (.seq
  (.reg [
    ⟨some 6, .assign (.const (.bool false)), none⟩])
  (.seq
  (.reg [
    ⟨some 7, .move (.tmp 0), none⟩,
    ⟨some 8, .move (.tmp 1), none⟩,
    ⟨some 9, .binOp .geq 3 (.tmp 7) (.tmp 8) 3, none⟩,
    ⟨some 10, .move (.tmp 9), none⟩,
    ⟨some 11, .move (.tmp 0), some (10, true)⟩,
    ⟨some 12, .move (.tmp 2), some (10, true)⟩,
    ⟨some 13, .binOp .leq 3 (.tmp 11) (.tmp 12) 3, some (10, true)⟩,
    ⟨some 14, .pick (.tmp 10) (.tmp 13) (.const (.bool false)), none⟩,
    ⟨some 6, .assign (.tmp 14), none⟩])
  .ret))
theorem hd100 : Try.f100.body.map dec = some c100 := by kernel_rfl
theorem e100 {R : AV → AH → Prop} {h : AH} (x0 x1 x2 : AV) (H : h.wf → AI Try.prog c100 (RetQ Try.prog [.tmp 6] R) [x0, x1, x2, un, un, un, un, un, un, un, un, un, un, un, un] h) : AC Try.prog 100 [x0, x1, x2] h R :=
  AC_of' (rs := [.tmp 6]) Try.func100 (by kernel_rfl) hd100 Try.ntmps100 rfl H

/-- spec.l1All -/
def c101 : IC :=
  (.seq
  (.reg [
    ⟨some 6, .assign (.const (.bool false)), none⟩])
  (.seq
  (.seq
  (.reg [
    ⟨some 9, .move (.tmp 0), none⟩,
    ⟨some 10, .call { callee := .builtin .len, args := #[.tmp 9], argTypes := #[29] }, none⟩,
    ⟨some 11, .move (.const (.int .i64 0)), none⟩])
  (.block 0
  (.loop
    (.seq
    (.reg [
      ⟨some 12, .binOp .lss 3 (.tmp 11) (.tmp 10) 3, none⟩])
    (.seq
    (.cond (.tmp 12)
      .skip
      (.exit 0))
    (.seq
    (.block 1
    (.seq
    (.reg [
      ⟨some 13, .indexAddr 29 (.tmp 9) (.tmp 11), none⟩,
      ⟨some 14, .load 3 (.tmp 13), none⟩,
      ⟨some 8, .assign (.tmp 14), none⟩])
    (.seq
    (.reg [
      ⟨some 15, .move (.tmp 8), none⟩,
      ⟨some 16, .move (.tmp 1), none⟩,
      ⟨some 17, .move (.tmp 2), none⟩,
      ⟨some 18, .call { callee := .value (.func 100), args := #[.tmp 15, .tmp 16, .tmp 17], argTypes := #[3, 3, 3] }, none⟩,
      ⟨some 19, .unOp .not 4 (.tmp 18), none⟩])
    (.cond (.tmp 19)
      (.seq
      (.reg [
        ⟨some 6, .assign (.const (.bool false)), none⟩])
      .ret)
      .skip))))
    (.reg [
      ⟨some 20, .binOp .add 3 (.tmp 11) (.const (.int .i64 1)) 3, none⟩,
      ⟨some 11, .move (.tmp 20), none⟩])))))))
  (.seq
  (.reg [
    ⟨some 6, .assign (.const (.bool true)), none⟩])
  .ret)))
theorem hd101 : Try.f101.body.map dec = some c101 := by kernel_rfl
theorem e101 {R : AV → AH → Prop} {h : AH} (x0 x1 x2 : AV) (H : h.wf → AI Try.prog c101 (RetQ Try.prog [.tmp 6] R) [x0, x1, x2, un, un, un, un, un, un, un, un, un, un, un, un, un, un, un, un, un, un] h) : AC Try.prog 101 [x0, x1, x2] h R :=
  AC_of' (rs := [.tmp 6]) Try.func101 (by kernel_rfl) hd101 Try.ntmps101 rfl H

noncomputable def rg158_0 : Array Oper := rawAt Try.f158 0
/-- spec.plSum -/
noncomputable def c158 : IC :=
  (.seq
  (.reg [
    ⟨some 4, .assign (.const (.slice none 0 0)), none⟩])
  (.seq
  (.reg [
    ⟨some 5, .assign (.const (.slice none 0 0)), none⟩])
  (.seq
  (.seq
  (.reg [
    ⟨some 7, .move (.tmp 0), none⟩,
    ⟨some 8, .call { callee := .builtin .len, args := #[.tmp 7], argTypes := #[29] }, none⟩,
    ⟨some 9, .move (.const (.int .i64 0)), none⟩])
  (.block 0
  (.loop
    (.seq
    (.reg [
      ⟨some 10, .binOp .lss 3 (.tmp 9) (.tmp 8) 3, none⟩])
    (.seq
    (.cond (.tmp 10)
      .skip
      (.exit 0))
    (.seq
    (.block 1
    (.seq
    (.reg [
      ⟨some 11, .move (.tmp 9), none⟩,
      ⟨some 6, .assign (.tmp 11), none⟩])
    (.raw (.region 5 rg158_0 true))))
    (.reg [
      ⟨some 25, .binOp .add 3 (.tmp 9) (.const (.int .i64 1)) 3, none⟩,
      ⟨some 9, .move (.tmp 25), none⟩])))))))
  (.seq
  (.reg [
    ⟨some 26, .move (.tmp 5), none⟩,
    ⟨some 4, .assign (.tmp 26), none⟩])
  .ret))))
theorem hd158 : Try.f158.body.map dec = some c158 := by kernel_rfl
theorem e158 {R : AV → AH → Prop} {h : AH} (x0 x1 : AV) (H : h.wf → AI Try.prog c158 (RetQ Try.prog [.tmp 4] R) [x0, x1, un, un, un, un, un, un, un, un, un, un, un, un, un, un, un, un, un, un, un, un, un, un, un, un, un] h) : AC Try.prog 158 [x0, x1] h R :=
  AC_of' (rs := [.tmp 4]) Try.func158 (by kernel_rfl) hd158 Try.ntmps158 rfl H
theorem dz158_0 {h0 : AH} {L : List It} {Q : Exit → List AV → List It → Prop} {a : List AV} {id : Nat} (H : LX Try.prog ⟨[12], []⟩ h0 L L (.c (⟨some 12, .move (.tmp 5), none⟩, .p) <| .c (⟨some 13, .move (.tmp 0), none⟩, .p) <| .c (⟨some 14, .move (.tmp 6), none⟩, .p) <| .c (⟨some 15, .indexAddr 29 (.tmp 13) (.tmp 14), none⟩, .p) <| .c (⟨some 16, .load 3 (.tmp 15), none⟩, .l) <| .c (⟨some 17, .move (.tmp 1), none⟩, .p) <| .c (⟨some 18, .move (.tmp 6), none⟩, .p) <| .c (⟨some 19, .indexAddr 29 (.tmp 17) (.tmp 18), none⟩, .p) <| .c (⟨some 20, .load 3 (.tmp 19), none⟩, .l) <| .c (⟨some 21, .binOp .add 3 (.tmp 16) (.tmp 20) 3, none⟩, .p) <| .c (⟨some 22, .call { callee := .value (.func 80), args := #[.tmp 21, .const (.int .i64 1000001)], argTypes := #[3, 3] }, none⟩, .e) <| .c (⟨some 23, .buildSlice 29 1 #[(0, .tmp 22)], none⟩, .e) <| .c (⟨some 24, .call { callee := .builtin .append, args := #[.tmp 12, .tmp 23], argTypes := #[29, 29] }, none⟩, .f) <| .c (⟨some 5, .assign (.tmp 24), none⟩, .p) <| .n) Q a) : LI Try.prog h0 L (.raw (.region id rg158_0 true)) Q a :=
  LI_draw (.c (0, .p) <| .c (1, .p) <| .c (2, .p) <| .c (3, .p) <| .c (4, .l) <| .c (5, .p) <| .c (6, .p) <| .c (7, .p) <| .c (8, .l) <| .c (9, .p) <| .c (10, .e) <| .c (11, .e) <| .c (12, .f) <| .c (13, .p) <| .n) [12] (by kernel_rfl) (by kernel_rfl) (by kernel_rfl) H
theorem dy158_0 {h0 : AH} {L : List It} {Q : Exit → List AV → List It → Prop} {a : List AV} {id : Nat} (H : LX Try.prog ⟨[10, 11, 12], []⟩ h0 L L (.c (⟨some 12, .move (.tmp 5), none⟩, .p) <| .c (⟨some 13, .move (.tmp 0), none⟩, .p) <| .c (⟨some 14, .move (.tmp 6), none⟩, .p) <| .c (⟨some 15, .indexAddr 29 (.tmp 13) (.tmp 14), none⟩, .p) <| .c (⟨some 16, .load 3 (.tmp 15), none⟩, .l) <| .c (⟨some 17, .move (.tmp 1), none⟩, .p) <| .c (⟨some 18, .move (.tmp 6), none⟩, .p) <| .c (⟨some 19, .indexAddr 29 (.tmp 17) (.tmp 18), none⟩, .p) <| .c (⟨some 20, .load 3 (.tmp 19), none⟩, .l) <| .c (⟨some 21, .binOp .add 3 (.tmp 16) (.tmp 20) 3, none⟩, .p) <| .c (⟨some 22, .call { callee := .value (.func 80), args := #[.tmp 21, .const (.int .i64 1000001)], argTypes := #[3, 3] }, none⟩, .f) <| .c (⟨some 23, .buildSlice 29 1 #[(0, .tmp 22)], none⟩, .f) <| .c (⟨some 24, .call { callee := .builtin .append, args := #[.tmp 12, .tmp 23], argTypes := #[29, 29] }, none⟩, .f) <| .c (⟨some 5, .assign (.tmp 24), none⟩, .p) <| .n) Q a) : LI Try.prog h0 L (.raw (.region id rg158_0 true)) Q a :=
  LI_draw (.c (0, .p) <| .c (1, .p) <| .c (2, .p) <| .c (3, .p) <| .c (4, .l) <| .c (5, .p) <| .c (6, .p) <| .c (7, .p) <| .c (8, .l) <| .c (9, .p) <| .c (10, .f) <| .c (11, .f) <| .c (12, .f) <| .c (13, .p) <| .n) [10, 11, 12] (by kernel_rfl) (by kernel_rfl) (by kernel_rfl) H
theorem dr158_0 (m : Nat) {Q : Exit → List AV → AH → Prop} {a : List AV} {h : AH} {id : Nat} (H : AX Try.prog m h [(⟨some 12, .move (.tmp 5), none⟩, true),
  (⟨some 13, .move (.tmp 0), none⟩, true),
  (⟨some 14, .move (.tmp 6), none⟩, true),
  (⟨some 15, .indexAddr 29 (.tmp 13) (.tmp 14), none⟩, true),
  (⟨some 16, .load 3 (.tmp 15), none⟩, true),
  (⟨some 17, .move (.tmp 1), none⟩, true),
  (⟨some 18, .move (.tmp 6), none⟩, true),
  (⟨some 19, .indexAddr 29 (.tmp 17) (.tmp 18), none⟩, true),
  (⟨some 20, .load 3 (.tmp 19), none⟩, true),
  (⟨some 21, .binOp .add 3 (.tmp 16) (.tmp 20) 3, none⟩, true),
  (⟨some 22, .call { callee := .value (.func 80), args := #[.tmp 21, .const (.int .i64 1000001)], argTypes := #[3, 3] }, none⟩, false),
  (⟨some 23, .buildSlice 29 1 #[(0, .tmp 22)], none⟩, false),
  (⟨some 24, .call { callee := .builtin .append, args := #[.tmp 12, .tmp 23], argTypes := #[29, 29] }, none⟩, false),
  (⟨some 5, .assign (.tmp 24), none⟩, true)] (fun a' h' => Q .normal a' h') a h) : AI Try.prog (.raw (.region id rg158_0 true)) Q a h :=
  AI_draw [(0, true), (1, true), (2, true), (3, true), (4, true), (5, true), (6, true), (7, true), (8, true), (9, true), (10, false), (11, false), (12, false), (13, true)] m (by kernel_rfl) (by kernel_rfl) (by kernel_rfl) H

noncomputable def rg136_0 : Array Oper := rawAt Try.f136 0
/-- spec.plExponents -/
noncomputable def c136 : IC :=
  (.seq
  (.reg [
    ⟨some 1, .box 31 (.tmp 0), none⟩,
    ⟨some 2, .assign (.const (.slice none 0 0)), none⟩])
  (.seq
  (.reg [
    ⟨some 3, .assign (.const (.slice none 0 0)), none⟩])
  (.seq
  (.seq
  (.reg [
    ⟨some 4, .assign (.const (.int .i64 0)), none⟩])
  (.block 0
  (.loop
    (.seq
    (.seq
    (.reg [
      ⟨some 8, .move (.tmp 4), none⟩,
      ⟨some 9, .fieldAddr 31 (.tmp 1) 0, none⟩,
      ⟨some 10, .load 3 (.tmp 9), none⟩,
      ⟨some 11, .binOp .lss 3 (.tmp 8) (.tmp 10) 3, none⟩])
    (.cond (.tmp 11)
      .skip
      (.exit 0)))
    (.seq
    (.block 1
    (.seq
    (.reg [
      ⟨some 14, .fieldAddr 31 (.tmp 1) 0, none⟩,
      ⟨some 15, .load 3 (.tmp 14), none⟩,
      ⟨some 16, .makeSlice 29 (.tmp 15) (.tmp 15), none⟩,
      ⟨some 5, .assign (.tmp 16), none⟩])
    (.seq
    (.reg [
      ⟨some 17, .move (.tmp 5), none⟩,
      ⟨some 18, .move (.tmp 4), none⟩,
      ⟨some 19, .indexAddr 29 (.tmp 17) (.tmp 18), none⟩,
      ⟨none, .store 3 (.tmp 19) (.const (.int .i64 1)), none⟩])
    (.reg [
      ⟨some 20, .move (.tmp 3), none⟩,
      ⟨some 21, .move (.tmp 5), none⟩,
      ⟨some 22, .buildSlice 39 1 #[(0, .tmp 21)], none⟩,
      ⟨some 23, .call { callee := .builtin .append, args := #[.tmp 20, .tmp 22], argTypes := #[39, 39] }, none⟩,
      ⟨some 3, .assign (.tmp 23), none⟩]))))
    (.reg [
      ⟨some 12, .move (.tmp 4), none⟩,
      ⟨some 13, .binOp .add 3 (.tmp 12) (.const (.int .i64 1)) 3, none⟩,
      ⟨some 4, .assign (.tmp 13), none⟩]))))))
  (.seq
  (.seq
  (.reg [
    ⟨some 24, .fieldAddr 31 (.tmp 1) 1, none⟩,
    ⟨some 25, .load 28 (.tmp 24), none⟩,
    ⟨some 26, .call { callee := .builtin .len, args := #[.tmp 25], argTypes := #[28] }, none⟩,
    ⟨some 27, .move (.const (.int .i64 0)), none⟩])
  (.block 2
  (.loop
    (.seq
    (.reg [
      ⟨some 28, .binOp .lss 3 (.tmp 27) (.tmp 26) 3, none⟩])
    (.seq
    (.cond (.tmp 28)
      .skip
      (.exit 2))
    (.seq
    (.block 3
    (.seq
    (.reg [
      ⟨some 29, .indexAddr 28 (.tmp 25) (.tmp 27), none⟩,
      ⟨some 30, .load 108 (.tmp 29), none⟩,
      ⟨some 7, .alloc 108, none⟩,
      ⟨none, .store 108 (.tmp 7) (.tmp 30), none⟩])
    (.raw (.region 11 rg136_0 true))))
    (.reg [
      ⟨some 45, .binOp .add 3 (.tmp 27) (.const (.int .i64 1)) 3, none⟩,
      ⟨some 27, .move (.tmp 45), none⟩])))))))
  (.seq
  (.reg [
    ⟨some 46, .move (.tmp 3), none⟩,
    ⟨some 2, .assign (.tmp 46), none⟩])
  .ret)))))
theorem hd136 : Try.f136.body.map dec = some c136 := by kernel_rfl
theorem e136 {R : AV → AH → Prop} {h : AH} (x0 : AV) (H : h.wf → AI Try.prog c136 (RetQ Try.prog [.tmp 2] R) [x0, un, un, un, un, un, un, un, un, un, un, un, un, un, un, un, un, un, un, un, un, un, un, un, un, un, un, un, un, un, un, un, un, un, un, un, un, un, un, un, un, un, un, un, un, un, un] h) : AC Try.prog 136 [x0] h R :=
  AC_of' (rs := [.tmp 2]) Try.func136 (by kernel_rfl) hd136 Try.ntmps136 rfl H
theorem dz136_0 {h0 : AH} {L : List It} {Q : Exit → List AV → List It → Prop} {a : List AV} {id : Nat} (H : LX Try.prog ⟨[13], []⟩ h0 L L (.c (⟨some 31, .move (.tmp 3), none⟩, .p) <| .c (⟨some 32, .move (.tmp 3), none⟩, .p) <| .c (⟨some 33, .fieldAddr 108 (.tmp 7) 0, none⟩, .p) <| .c (⟨some 34, .load 3 (.tmp 33), none⟩, .l) <| .c (⟨some 35, .indexAddr 39 (.tmp 32) (.tmp 34), none⟩, .p) <| .c (⟨some 36, .load 29 (.tmp 35), none⟩, .l) <| .c (⟨some 37, .move (.tmp 3), none⟩, .p) <| .c (⟨some 38, .fieldAddr 108 (.tmp 7) 1, none⟩, .p) <| .c (⟨some 39, .load 3 (.tmp 38), none⟩, .l) <| .c (⟨some 40, .indexAddr 39 (.tmp 37) (.tmp 39), none⟩, .p) <| .c (⟨some 41, .load 29 (.tmp 40), none⟩, .l) <| .c (⟨some 42, .call { callee := .value (.func 158), args := #[.tmp 36, .tmp 41], argTypes := #[29, 29] }, none⟩, .e) <| .c (⟨some 43, .buildSlice 39 1 #[(0, .tmp 42)], none⟩, .e) <| .c (⟨some 44, .call { callee := .builtin .append, args := #[.tmp 31, .tmp 43], argTypes := #[39, 39] }, none⟩, .f) <| .c (⟨some 3, .assign (.tmp 44), none⟩, .p) <| .n) Q a) : LI Try.prog h0 L (.raw (.region id rg136_0 true)) Q a :=
  LI_draw (.c (0, .p) <| .c (1, .p) <| .c (2, .p) <| .c (3, .l) <| .c (4, .p) <| .c (5, .l) <| .c (6, .p) <| .c (7, .p) <| .c (8, .l) <| .c (9, .p) <| .c (10, .l) <| .c (11, .e) <| .c (12, .e) <| .c (13, .f) <| .c (14, .p) <| .n) [13] (by kernel_rfl) (by kernel_rfl) (by kernel_rfl) H
theorem dy136_0 {h0 : AH} {L : List It} {Q : Exit → List AV → List It → Prop} {a : List AV} {id : Nat} (H : LX Try.prog ⟨[11, 12, 13], []⟩ h0 L L (.c (⟨some 31, .move (.tmp 3), none⟩, .p) <| .c (⟨some 32, .move (.tmp 3), none⟩, .p) <| .c (⟨some 33, .fieldAddr 108 (.tmp 7) 0, none⟩, .p) <| .c (⟨some 34, .load 3 (.tmp 33), none⟩, .l) <| .c (⟨some 35, .indexAddr 39 (.tmp 32) (.tmp 34), none⟩, .p) <| .c (⟨some 36, .load 29 (.tmp 35), none⟩, .l) <| .c (⟨some 37, .move (.tmp 3), none⟩, .p) <| .c (⟨some 38, .fieldAddr 108 (.tmp 7) 1, none⟩, .p) <| .c (⟨some 39, .load 3 (.tmp 38), none⟩, .l) <| .c (⟨some 40, .indexAddr 39 (.tmp 37) (.tmp 39), none⟩, .p) <| .c (⟨some 41, .load 29 (.tmp 40), none⟩, .l) <| .c (⟨some 42, .call { callee := .value (.func 158), args := #[.tmp 36, .tmp 41], argTypes := #[29, 29] }, none⟩, .f) <| .c (⟨some 43, .buildSlice 39 1 #[(0, .tmp 42)], none⟩, .f) <| .c (⟨some 44, .call { callee := .builtin .append, args := #[.tmp 31, .tmp 43], argTypes := #[39, 39] }, none⟩, .f) <| .c (⟨some 3, .assign (.tmp 44), none⟩, .p) <| .n) Q a) : LI Try.prog h0 L (.raw (.region id rg136_0 true)) Q a :=
  LI_draw (.c (0, .p) <| .c (1, .p) <| .c (2, .p) <| .c (3, .l) <| .c (4, .p) <| .c (5, .l) <| .c (6, .p) <| .c (7, .p) <| .c (8, .l) <| .c (9, .p) <| .c (10, .l) <| .c (11, .f) <| .c (12, .f) <| .c (13, .f) <| .c (14, .p) <| .n) [11, 12, 13] (by kernel_rfl) (by kernel_rfl) (by kernel_rfl) H
theorem dr136_0 (m : Nat) {Q : Exit → List AV → AH → Prop} {a : List AV} {h : AH} {id : Nat} (H : AX Try.prog m h [(⟨some 31, .move (.tmp 3), none⟩, true),
  (⟨some 32, .move (.tmp 3), none⟩, true),
  (⟨some 33, .fieldAddr 108 (.tmp 7) 0, none⟩, true),
  (⟨some 34, .load 3 (.tmp 33), none⟩, true),
  (⟨some 35, .indexAddr 39 (.tmp 32) (.tmp 34), none⟩, true),
  (⟨some 36, .load 29 (.tmp 35), none⟩, true),
  (⟨some 37, .move (.tmp 3), none⟩, true),
  (⟨some 38, .fieldAddr 108 (.tmp 7) 1, none⟩, true),
  (⟨some 39, .load 3 (.tmp 38), none⟩, true),
  (⟨some 40, .indexAddr 39 (.tmp 37) (.tmp 39), none⟩, true),
  (⟨some 41, .load 29 (.tmp 40), none⟩, true),
  (⟨some 42, .call { callee := .value (.func 158), args := #[.tmp 36, .tmp 41], argTypes := #[29, 29] }, none⟩, false),
  (⟨some 43, .buildSlice 39 1 #[(0, .tmp 42)], none⟩, false),
  (⟨some 44, .call { callee := .builtin .append, args := #[.tmp 31, .tmp 43], argTypes := #[39, 39] }, none⟩, false),
  (⟨some 3, .assign (.tmp 44), none⟩, true)] (fun a' h' => Q .normal a' h') a h) : AI Try.prog (.raw (.region id rg136_0 true)) Q a h :=
  AI_draw [(0, true), (1, true), (2, true), (3, true), (4, true), (5, true), (6, true), (7, true), (8, true), (9, true), (10, true), (11, false), (12, false), (13, false), (14, true)] m (by kernel_rfl) (by kernel_rfl) (by kernel_rfl) H

/-- spec.plGood -/
def c85 : IC :=
  (.seq
  (.reg [
    ⟨some 1, .box 31 (.tmp 0), none⟩,
    ⟨some 2, .assign (.const (.bool false)), none⟩])
  (.seq
  (.seq
  (.reg [
    ⟨some 7, .fieldAddr 31 (.tmp 1) 0, none⟩,
    ⟨some 8, .load 3 (.tmp 7), none⟩,
    ⟨some 9, .call { callee := .value (.func 100), args := #[.tmp 8, .const (.int .i64 1), .const (.int .i64 6)], argTypes := #[3, 3, 3] }, none⟩,
    ⟨some 10, .unOp .not 4 (.tmp 9), none⟩,
    ⟨some 11, .move (.tmp 10), none⟩,
    ⟨some 12, .fieldAddr 31 (.tmp 1) 1, some (11, false)⟩,
    ⟨some 13, .load 28 (.tmp 12), some (11, false)⟩,
    ⟨some 14, .call { callee := .builtin .len, args := #[.tmp 13], argTypes := #[28] }, some (11, false)⟩,
    ⟨some 15, .binOp .gtr 3 (.tmp 14) (.const (.int .i64 40)) 3, some (11, false)⟩,
    ⟨some 16, .pick (.tmp 11) (.const (.bool true)) (.tmp 15), none⟩,
    ⟨some 17, .move (.tmp 16), none⟩,
    ⟨some 18, .fieldAddr 31 (.tmp 1) 2, some (17, false)⟩,
    ⟨some 19, .load 29 (.tmp 18), some (17, false)⟩,
    ⟨some 20, .call { callee := .builtin .len, args := #[.tmp 19], argTypes := #[29] }, some (17, false)⟩,
    ⟨some 21, .binOp .gtr 3 (.tmp 20) (.const (.int .i64 6)) 3, some (17, false)⟩,
    ⟨some 22, .pick (.tmp 17) (.const (.bool true)) (.tmp 21), none⟩])
  (.cond (.tmp 22)
    (.seq
    (.reg [
      ⟨some 2, .assign (.const (.bool false)), none⟩])
    .ret)
    .skip))
  (.seq
  (.seq
  (.reg [
    ⟨some 23, .fieldAddr 31 (.tmp 1) 1, none⟩,
    ⟨some 24, .load 28 (.tmp 23), none⟩,
    ⟨some 25, .call { callee := .builtin .len, args := #[.tmp 24], argTypes := #[28] }, none⟩,
    ⟨some 26, .move (.const (.int .i64 0)), none⟩])
  (.block 0
  (.loop
    (.seq
    (.reg [
      ⟨some 27, .binOp .lss 3 (.tmp 26) (.tmp 25) 3, none⟩])
    (.seq
    (.cond (.tmp 27)
      .skip
      (.exit 0))
    (.seq
    (.block 1
    (.seq
    (.reg [
      ⟨some 28, .move (.tmp 26), none⟩,
      ⟨some 29, .indexAddr 28 (.tmp 24) (.tmp 26), none⟩,
      ⟨some 30, .load 108 (.tmp 29), none⟩,
      ⟨some 4, .alloc 108, none⟩,
      ⟨some 3, .assign (.tmp 28), none⟩,
      ⟨none, .store 108 (.tmp 4) (.tmp 30), none⟩])
    (.seq
    (.reg [
      ⟨some 31, .fieldAddr 108 (.tmp 4) 0, none⟩,
      ⟨some 32, .load 3 (.tmp 31), none⟩,
      ⟨some 33, .fieldAddr 108 (.tmp 4) 1, none⟩,
      ⟨some 34, .load 3 (.tmp 33), none⟩,
      ⟨some 35, .call { callee := .value (.func 100), args := #[.tmp 32, .const (.int .i64 0), .tmp 34], argTypes := #[3, 3, 3] }, none⟩,
      ⟨some 36, .unOp .not 4 (.tmp 35), none⟩,
      ⟨some 37, .move (.tmp 36), none⟩,
      ⟨some 38, .fieldAddr 108 (.tmp 4) 1, some (37, false)⟩,
      ⟨some 39, .load 3 (.tmp 38), some (37, false)⟩,
      ⟨some 40, .fieldAddr 31 (.tmp 1) 0, some (37, false)⟩,
      ⟨some 41, .load 3 (.tmp 40), some (37, false)⟩,
      ⟨some 42, .move (.tmp 3), some (37, false)⟩,
      ⟨some 43, .binOp .add 3 (.tmp 41) (.tmp 42) 3, some (37, false)⟩,
      ⟨some 44, .binOp .geq 3 (.tmp 39) (.tmp 43) 3, some (37, false)⟩,
      ⟨some 45, .pick (.tmp 37) (.const (.bool true)) (.tmp 44), none⟩])
    (.cond (.tmp 45)
      (.seq
      (.reg [
        ⟨some 2, .assign (.const (.bool false)), none⟩])
      .ret)
      .skip))))
    (.reg [
      ⟨some 46, .binOp .add 3 (.tmp 26) (.const (.int .i64 1)) 3, none⟩,
      ⟨some 26, .move (.tmp 46), none⟩])))))))
  (.seq
  (.seq
  (.reg [
    ⟨some 47, .load 31 (.tmp 1), none⟩,
    ⟨some 48, .call { callee := .value (.func 136), args := #[.tmp 47], argTypes := #[31] }, none⟩,
    ⟨some 49, .call { callee := .builtin .len, args := #[.tmp 48], argTypes := #[39] }, none⟩,
    ⟨some 50, .move (.const (.int .i64 0)), none⟩])
  (.block 2
  (.loop
    (.seq
    (.reg [
      ⟨some 51, .binOp .lss 3 (.tmp 50) (.tmp 49) 3, none⟩])
    (.seq
    (.cond (.tmp 51)
      .skip
      (.exit 2))
    (.seq
    (.block 3
    (.seq
    (.reg [
      ⟨some 52, .indexAddr 39 (.tmp 48) (.tmp 50), none⟩,
      ⟨some 53, .load 29 (.tmp 52), none⟩,
      ⟨some 6, .assign (.tmp 53), none⟩])
    (.seq
    (.reg [
      ⟨some 54, .move (.tmp 6), none⟩,
      ⟨some 55, .call { callee := .value (.func 101), args := #[.tmp 54, .const (.int .i64 0), .const (.int .i64 1000000)], argTypes := #[29, 3, 3] }, none⟩,
      ⟨some 56, .unOp .not 4 (.tmp 55), none⟩])
    (.cond (.tmp 56)
      (.seq
      (.reg [
        ⟨some 2, .assign (.const (.bool false)), none⟩])
      .ret)
      .skip))))
    (.reg [
      ⟨some 57, .binOp .add 3 (.tmp 50) (.const (.int .i64 1)) 3, none⟩,
      ⟨some 50, .move (.tmp 57), none⟩])))))))
  (.seq
  (.reg [
    ⟨some 58, .fieldAddr 31 (.tmp 1) 2, none⟩,
    ⟨some 59, .load 29 (.tmp 58), none⟩,
    ⟨some 60, .fieldAddr 31 (.tmp 1) 0, none⟩,
    ⟨some 61, .load 3 (.tmp 60), none⟩,
    ⟨some 62, .fieldAddr 31 (.tmp 1) 1, none⟩,
    ⟨some 63, .load 28 (.tmp 62), none⟩,
    ⟨some 64, .call { callee := .builtin .len, args := #[.tmp 63], argTypes := #[28] }, none⟩,
    ⟨some 65, .binOp .add 3 (.tmp 61) (.tmp 64) 3, none⟩,
    ⟨some 66, .binOp .sub 3 (.tmp 65) (.const (.int .i64 1)) 3, none⟩,
    ⟨some 67, .call { callee := .value (.func 101), args := #[.tmp 59, .const (.int .i64 0), .tmp 66], argTypes := #[29, 3, 3] }, none⟩,
    ⟨some 2, .assign (.tmp 67), none⟩])
  .ret)))))
theorem hd85 : Try.f85.body.map dec = some c85 := by kernel_rfl
theorem e85 {R : AV → AH → Prop} {h : AH} (x0 : AV) (H : h.wf → AI Try.prog c85 (RetQ Try.prog [.tmp 2] R) [x0, un, un, un, un, un, un, un, un, un, un, un, un, un, un, un, un, un, un, un, un, un, un, un, un, un, un, un, un, un, un, un, un, un, un, un, un, un, un, un, un, un, un, un, un, un, un, un, un, un, un, un, un, un, un, un, un, un, un, un, un, un, un, un, un, un, un, un] h) : AC Try.prog 85 [x0] h R :=
  AC_of' (rs := [.tmp 2]) Try.func85 (by kernel_rfl) hd85 Try.ntmps85 rfl H

/-- spec.plIf -/
def c63 : IC :=
  (.seq
  (.reg [
    ⟨some 1, .box 31 (.tmp 0), none⟩,
    ⟨some 2, .alloc 31, none⟩,
    ⟨some 3, .assign (.const (.bool false)), none⟩])
  (.seq
  (.seq
  (.reg [
    ⟨some 4, .load 31 (.tmp 1), none⟩,
    ⟨some 5, .call { callee := .value (.func 85), args := #[.tmp 4], argTypes := #[31] }, none⟩,
    ⟨some 6, .unOp .not 4 (.tmp 5), none⟩])
  (.cond (.tmp 6)
    (.seq
    (.reg [
      ⟨some 7, .build 31 #[], none⟩,
      ⟨none, .store 31 (.tmp 2) (.tmp 7), none⟩,
      ⟨some 3, .assign (.const (.bool false)), none⟩])
    .ret)
    .skip))
  (.seq
  (.reg [
    ⟨some 8, .load 31 (.tmp 1), none⟩,
    ⟨none, .store 31 (.tmp 2) (.tmp 8), none⟩,
    ⟨some 3, .assign (.const (.bool true)), none⟩])
  .ret)))
theorem hd63 : Try.f63.body.map dec = some c63 := by kernel_rfl
theorem e63 {R : AV → AH → Prop} {h : AH} (x0 : AV) (H : h.wf → AI Try.prog c63 (RetQ Try.prog [.cell 2 31, .tmp 3] R) [x0, un, un, un, un, un, un, un, un] h) : AC Try.prog 63 [x0] h R :=
  AC_of' (rs := [.cell 2 31, .tmp 3]) Try.func63 (by kernel_rfl) hd63 Try.ntmps63 rfl H

/-- spec.l1Own -/
def c110 : IC :=
  (.seq
  (.reg [
    ⟨some 2, .assign (.const (.slice none 0 0)), none⟩])
  (.seq
  (.reg [
    ⟨some 3, .buildSlice 29 0 #[], none⟩,
    ⟨some 4, .move (.tmp 0), none⟩,
    ⟨some 5, .call { callee := .builtin .append, args := #[.tmp 3, .tmp 4], argTypes := #[29, 29] }, none⟩,
    ⟨some 2, .assign (.tmp 5), none⟩])
  .ret))
theorem hd110 : Try.f110.body.map dec = some c110 := by kernel_rfl
theorem e110 {R : AV → AH → Prop} {h : AH} (x0 : AV) (H : h.wf → AI Try.prog c110 (RetQ Try.prog [.tmp 2] R) [x0, un, un, un, un, un] h) : AC Try.prog 110 [x0] h R :=
  AC_of' (rs := [.tmp 2]) Try.func110 (by kernel_rfl) hd110 Try.ntmps110 rfl H

noncomputable def rg86_0 : Array Oper := rawAt Try.f86 0
/-- spec.plThen -/
noncomputable def c86 : IC :=
  (.seq
  (.reg [
    ⟨some 6, .box 31 (.tmp 2), none⟩,
    ⟨some 8, .assign (.const (.slice none 0 0)), none⟩,
    ⟨some 9, .assign (.const (.slice none 0 0)), none⟩])
  (.seq
  (.reg [
    ⟨some 17, .move (.tmp 3), none⟩,
    ⟨some 18, .call { callee := .value (.func 110), args := #[.tmp 17], argTypes := #[29] }, none⟩,
    ⟨some 10, .assign (.tmp 18), none⟩])
  (.seq
  (.reg [
    ⟨some 19, .buildSlice 28 0 #[], none⟩,
    ⟨some 20, .move (.tmp 0), none⟩,
    ⟨some 21, .call { callee := .builtin .append, args := #[.tmp 19, .tmp 20], argTypes := #[28, 28] }, none⟩,
    ⟨some 11, .assign (.tmp 21), none⟩])
  (.seq
  (.seq
  (.reg [
    ⟨some 22, .fieldAddr 31 (.tmp 6) 1, none⟩,
    ⟨some 23, .load 28 (.tmp 22), none⟩,
    ⟨some 24, .call { callee := .builtin .len, args := #[.tmp 23], argTypes := #[28] }, none⟩,
    ⟨some 25, .move (.const (.int .i64 0)), none⟩])
  (.block 0
  (.loop
    (.seq
    (.reg [
      ⟨some 26, .binOp .lss 3 (.tmp 25) (.tmp 24) 3, none⟩])
    (.seq
    (.cond (.tmp 26)
      .skip
      (.exit 0))
    (.seq
    (.block 1
    (.seq
    (.reg [
      ⟨some 27, .indexAddr 28 (.tmp 23) (.tmp 25), none⟩,
      ⟨some 28, .load 108 (.tmp 27), none⟩,
      ⟨some 13, .alloc 108, none⟩,
      ⟨none, .store 108 (.tmp 13) (.tmp 28), none⟩])
    (.seq
    (.raw (.region 6 rg86_0 true))
    (.reg [
      ⟨some 43, .move (.tmp 10), none⟩,
      ⟨some 44, .move (.tmp 1), none⟩,
      ⟨some 45, .move (.tmp 11), none⟩,
      ⟨some 46, .call { callee := .builtin .len, args := #[.tmp 45], argTypes := #[28] }, none⟩,
      ⟨some 47, .binOp .add 3 (.tmp 44) (.tmp 46) 3, none⟩,
      ⟨some 48, .binOp .sub 3 (.tmp 47) (.const (.int .i64 1)) 3, none⟩,
      ⟨some 49, .buildSlice 29 1 #[(0, .tmp 48)], none⟩,
      ⟨some 50, .call { callee := .builtin .append, args := #[.tmp 43, .tmp 49], argTypes := #[29, 29] }, none⟩,
      ⟨some 10, .assign (.tmp 50), none⟩]))))
    (.reg [
      ⟨some 51, .binOp .add 3 (.tmp 25) (.const (.int .i64 1)) 3, none⟩,
      ⟨some 25, .move (.tmp 51), none⟩])))))))
  (.seq
  (.reg [
    ⟨some 14, .assign (.const (.slice none 0 0)), none⟩])
  (.seq
  (.seq
  (.reg [
    ⟨some 52, .fieldAddr 31 (.tmp 6) 2, none⟩,
    ⟨some 53, .load 29 (.tmp 52), none⟩,
    ⟨some 54, .call { callee := .builtin .len, args := #[.tmp 53], argTypes := #[29] }, none⟩,
    ⟨some 55, .move (.const (.int .i64 0)), none⟩])
  (.block 2
  (.loop
    (.seq
    (.reg [
      ⟨some 56, .binOp .lss 3 (.tmp 55) (.tmp 54) 3, none⟩])
    (.seq
    (.cond (.tmp 56)
      .skip
      (.exit 2))
    (.seq
    (.block 3
    (.seq
    (.reg [
      ⟨some 57, .indexAddr 29 (.tmp 53) (.tmp 55), none⟩,
      ⟨some 58, .load 3 (.tmp 57), none⟩,
      ⟨some 16, .assign (.tmp 58), none⟩])
    (.reg [
      ⟨some 59, .move (.tmp 14), none⟩,
      ⟨some 60, .move (.tmp 10), none⟩,
      ⟨some 61, .move (.tmp 16), none⟩,
      ⟨some 62, .indexAddr 29 (.tmp 60) (.tmp 61), none⟩,
      ⟨some 63, .load 3 (.tmp 62), none⟩,
      ⟨some 64, .buildSlice 29 1 #[(0, .tmp 63)], none⟩,
      ⟨some 65, .call { callee := .builtin .append, args := #[.tmp 59, .tmp 64], argTypes := #[29, 29] }, none⟩,
      ⟨some 14, .assign (.tmp 65), none⟩])))
    (.reg [
      ⟨some 66, .binOp .add 3 (.tmp 55) (.const (.int .i64 1)) 3, none⟩,
      ⟨some 55, .move (.tmp 66), none⟩])))))))
  (.seq
  (.reg [
    ⟨some 67, .move (.tmp 11), none⟩,
    ⟨some 68, .move (.tmp 14), none⟩,
    ⟨some 8, .assign (.tmp 67), none⟩,
    ⟨some 9, .assign (.tmp 68), none⟩])
  .ret)))))))
theorem hd86 : Try.f86.body.map dec = some c86 := by kernel_rfl
theorem e86 {R : AV → AH → Prop} {h : AH} (x0 x1 x2 x3 : AV) (H : h.wf → AI Try.prog c86 (RetQ Try.prog [.tmp 8, .tmp 9] R) [x0, x1, x2, x3, un, un, un, un, un, un, un, un, un, un, un, un, un, un, un, un, un, un, un, un, un, un, un, un, un, un, un, un, un, un, un, un, un, un, un, un, un, un, un, un, un, un, un, un, un, un, un, un, un, un, un, un, un, un, un, un, un, un, un, un, un, un, un, un, un] h) : AC Try.prog 86 [x0, x1, x2, x3] h R :=
  AC_of' (rs := [.tmp 8, .tmp 9]) Try.func86 (by kernel_rfl) hd86 Try.ntmps86 rfl H
theorem dz86_0 {h0 : AH} {L : List It} {Q : Exit → List AV → List It → Prop} {a : List AV} {id : Nat} (H : LX Try.prog ⟨[13], []⟩ h0 L L (.c (⟨some 29, .move (.tmp 11), none⟩, .p) <| .c (⟨some 30, .move (.tmp 10), none⟩, .p) <| .c (⟨some 31, .fieldAddr 108 (.tmp 13) 0, none⟩, .p) <| .c (⟨some 32, .load 3 (.tmp 31), none⟩, .l) <| .c (⟨some 33, .indexAddr 29 (.tmp 30) (.tmp 32), none⟩, .p) <| .c (⟨some 34, .load 3 (.tmp 33), none⟩, .l) <| .c (⟨some 35, .move (.tmp 10), none⟩, .p) <| .c (⟨some 36, .fieldAddr 108 (.tmp 13) 1, none⟩, .p) <| .c (⟨some 37, .load 3 (.tmp 36), none⟩, .l) <| .c (⟨some 38, .indexAddr 29 (.tmp 35) (.tmp 37), none⟩, .p) <| .c (⟨some 39, .load 3 (.tmp 38), none⟩, .l) <| .c (⟨some 40, .call { callee := .value (.func 111), args := #[.tmp 34, .tmp 39], argTypes := #[3, 3] }, none⟩, .e) <| .c (⟨some 41, .buildSlice 28 1 #[(0, .tmp 40)], none⟩, .e) <| .c (⟨some 42, .call { callee := .builtin .append, args := #[.tmp 29, .tmp 41], argTypes := #[28, 28] }, none⟩, .f) <| .c (⟨some 11, .assign (.tmp 42), none⟩, .p) <| .n) Q a) : LI Try.prog h0 L (.raw (.region id rg86_0 true)) Q a :=
  LI_draw (.c (0, .p) <| .c (1, .p) <| .c (2, .p) <| .c (3, .l) <| .c (4, .p) <| .c (5, .l) <| .c (6, .p) <| .c (7, .p) <| .c (8, .l) <| .c (9, .p) <| .c (10, .l) <| .c (11, .e) <| .c (12, .e) <| .c (13, .f) <| .c (14, .p) <| .n) [13] (by kernel_rfl) (by kernel_rfl) (by kernel_rfl) H
theorem dy86_0 {h0 : AH} {L : List It} {Q : Exit → List AV → List It → Prop} {a : List AV} {id : Nat} (H : LX Try.prog ⟨[11, 12, 13], []⟩ h0 L L (.c (⟨some 29, .move (.tmp 11), none⟩, .p) <| .c (⟨some 30, .move (.tmp 10), none⟩, .p) <| .c (⟨some 31, .fieldAddr 108 (.tmp 13) 0, none⟩, .p) <| .c (⟨some 32, .load 3 (.tmp 31), none⟩, .l) <| .c (⟨some 33, .indexAddr 29 (.tmp 30) (.tmp 32), none⟩, .p) <| .c (⟨some 34, .load 3 (.tmp 33), none⟩, .l) <| .c (⟨some 35, .move (.tmp 10), none⟩, .p) <| .c (⟨some 36, .fieldAddr 108 (.tmp 13) 1, none⟩, .p) <| .c (⟨some 37, .load 3 (.tmp 36), none⟩, .l) <| .c (⟨some 38, .indexAddr 29 (.tmp 35) (.tmp 37), none⟩, .p) <| .c (⟨some 39, .load 3 (.tmp 38), none⟩, .l) <| .c (⟨some 40, .call { callee := .value (.func 111), args := #[.tmp 34, .tmp 39], argTypes := #[3, 3] }, none⟩, .f) <| .c (⟨some 41, .buildSlice 28 1 #[(0, .tmp 40)], none⟩, .f) <| .c (⟨some 42, .call { callee := .builtin .append, args := #[.tmp 29, .tmp 41], argTypes := #[28, 28] }, none⟩, .f) <| .c (⟨some 11, .assign (.tmp 42), none⟩, .p) <| .n) Q a) : LI Try.prog h0 L (.raw (.region id rg86_0 true)) Q a :=
  LI_draw (.c (0, .p) <| .c (1, .p) <| .c (2, .p) <| .c (3, .l) <| .c (4, .p) <| .c (5, .l) <| .c (6, .p) <| .c (7, .p) <| .c (8, .l) <| .c (9, .p) <| .c (10, .l) <| .c (11, .f) <| .c (12, .f) <| .c (13, .f) <| .c (14, .p) <| .n) [11, 12, 13] (by kernel_rfl) (by kernel_rfl) (by kernel_rfl) H
theorem dr86_0 (m : Nat) {Q : Exit → List AV → AH → Prop} {a : List AV} {h : AH} {id : Nat} (H : AX Try.prog m h [(⟨some 29, .move (.tmp 11), none⟩, true),
  (⟨some 30, .move (.tmp 10), none⟩, true),
  (⟨some 31, .fieldAddr 108 (.tmp 13) 0, none⟩, true),
  (⟨some 32, .load 3 (.tmp 31), none⟩, true),
  (⟨some 33, .indexAddr 29 (.tmp 30) (.tmp 32), none⟩, true),
  (⟨some 34, .load 3 (.tmp 33), none⟩, true),
  (⟨some 35, .move (.tmp 10), none⟩, true),
  (⟨some 36, .fieldAddr 108 (.tmp 13) 1, none⟩, true),
  (⟨some 37, .load 3 (.tmp 36), none⟩, true),
  (⟨some 38, .indexAddr 29 (.tmp 35) (.tmp 37), none⟩, true),
  (⟨some 39, .load 3 (.tmp 38), none⟩, true),
  (⟨some 40, .call { callee := .value (.func 111), args := #[.tmp 34, .tmp 39], argTypes := #[3, 3] }, none⟩, false),
  (⟨some 41, .buildSlice 28 1 #[(0, .tmp 40)], none⟩, false),
  (⟨some 42, .call { callee := .builtin .append, args := #[.tmp 29, .tmp 41], argTypes := #[28, 28] }, none⟩, false),
  (⟨some 11, .assign (.tmp 42), none⟩, true)] (fun a' h' => Q .normal a' h') a h) : AI Try.prog (.raw (.region id rg86_0 true)) Q a h :=
  AI_draw [(0, true), (1, true), (2, true), (3, true), (4, true), (5, true), (6, true), (7, true), (8, true), (9, true), (10, true), (11, false), (12, false), (13, false), (14, true)] m (by kernel_rfl) (by kernel_rfl) (by kernel_rfl) H

/-- spec.ComposePlans -/
def c31 : IC :=
  (.seq
  (.reg [
    ⟨some 2, .box 31 (.tmp 0), none⟩,
    ⟨some 3, .box 31 (.tmp 1), none⟩,
    ⟨some 4, .alloc 31, none⟩,
    ⟨some 5, .assign (.const (.bool false)), none⟩])
  (.seq
  (.seq
  (.reg [
    ⟨some 8, .load 31 (.tmp 2), none⟩,
    ⟨some 9, .call { callee := .value (.func 85), args := #[.tmp 8], argTypes := #[31] }, none⟩,
    ⟨some 10, .unOp .not 4 (.tmp 9), none⟩,
    ⟨some 11, .move (.tmp 10), none⟩,
    ⟨some 12, .load 31 (.tmp 3), some (11, false)⟩,
    ⟨some 13, .call { callee := .value (.func 85), args := #[.tmp 12], argTypes := #[31] }, some (11, false)⟩,
    ⟨some 14, .unOp .not 4 (.tmp 13), some (11, false)⟩,
    ⟨some 15, .pick (.tmp 11) (.const (.bool true)) (.tmp 14), none⟩,
    ⟨some 16, .move (.tmp 15), none⟩,
    ⟨some 17, .fieldAddr 31 (.tmp 2) 2, some (16, false)⟩,
    ⟨some 18, .load 29 (.tmp 17), some (16, false)⟩,
    ⟨some 19, .call { callee := .builtin .len, args := #[.tmp 18], argTypes := #[29] }, some (16, false)⟩,
    ⟨some 20, .fieldAddr 31 (.tmp 3) 0, some (16, false)⟩,
    ⟨some 21, .load 3 (.tmp 20), some (16, false)⟩,
    ⟨some 22, .binOp .neq 3 (.tmp 19) (.tmp 21) 3, some (16, false)⟩,
    ⟨some 23, .pick (.tmp 16) (.const (.bool true)) (.tmp 22), none⟩])
  (.cond (.tmp 23)
    (.seq
    (.reg [
      ⟨some 24, .build 31 #[], none⟩,
      ⟨none, .store 31 (.tmp 4) (.tmp 24), none⟩,
      ⟨some 5, .assign (.const (.bool false)), none⟩])
    .ret)
    .skip))
  (.seq
  (.reg [
    ⟨some 26, .fieldAddr 31 (.tmp 2) 1, none⟩,
    ⟨some 27, .load 28 (.tmp 26), none⟩,
    ⟨some 28, .fieldAddr 31 (.tmp 2) 0, none⟩,
    ⟨some 29, .load 3 (.tmp 28), none⟩,
    ⟨some 30, .load 31 (.tmp 3), none⟩,
    ⟨some 31, .fieldAddr 31 (.tmp 2) 2, none⟩,
    ⟨some 32, .load 29 (.tmp 31), none⟩,
    ⟨some 33, .call { callee := .value (.func 86), args := #[.tmp 27, .tmp 29, .tmp 30, .tmp 32], argTypes := #[28, 3, 31, 29] }, none⟩,
    ⟨some 25, .move (.tmp 33), none⟩,
    ⟨some 34, .extract (.tmp 25) 0, none⟩,
    ⟨some 35, .extract (.tmp 25) 1, none⟩,
    ⟨some 6, .assign (.tmp 34), none⟩,
    ⟨some 7, .assign (.tmp 35), none⟩])
  (.seq
  (.reg [
    ⟨some 36, .fieldAddr 31 (.tmp 2) 0, none⟩,
    ⟨some 37, .load 3 (.tmp 36), none⟩,
    ⟨some 38, .move (.tmp 6), none⟩,
    ⟨some 39, .move (.tmp 7), none⟩,
    ⟨some 40, .build 31 #[(0, .tmp 37), (1, .tmp 38), (2, .tmp 39)], none⟩,
    ⟨some 41, .call { callee := .value (.func 63), args := #[.tmp 40], argTypes := #[31] }, none⟩,
    ⟨some 42, .extract (.tmp 41) 0, none⟩,
    ⟨some 43, .extract (.tmp 41) 1, none⟩,
    ⟨none, .store 31 (.tmp 4) (.tmp 42), none⟩,
    ⟨some 5, .assign (.tmp 43), none⟩])
  .ret))))
theorem hd31 : Try.f31.body.map dec = some c31 := by kernel_rfl
theorem e31 {R : AV → AH → Prop} {h : AH} (x0 x1 : AV) (H : h.wf → AI Try.prog c31 (RetQ Try.prog [.cell 4 31, .tmp 5] R) [x0, x1, un, un, un, un, un, un, un, un, un, un, un, un, un, un, un, un, un, un, un, un, un, un, un, un, un, un, un, un, un, un, un, un, un, un, un, un, un, un, un, un, un, un] h) : AC Try.prog 31 [x0, x1] h R :=
  AC_of' (rs := [.cell 4 31, .tmp 5]) Try.func31 (by kernel_rfl) hd31 Try.ntmps31 rfl H

noncomputable def rg87_0 : Array Oper := rawAt Try.f87 0
/-- laws.pSameSteps -/
noncomputable def c87 : IC :=
  (.seq
  (.reg [
    ⟨some 4, .assign (.const (.bool false)), none⟩])
  (.seq
  (.seq
  (.reg [
    ⟨some 6, .move (.tmp 0), none⟩,
    ⟨some 7, .call { callee := .builtin .len, args := #[.tmp 6], argTypes := #[28] }, none⟩,
    ⟨some 8, .move (.tmp 1), none⟩,
    ⟨some 9, .call { callee := .builtin .len, args := #[.tmp 8], argTypes := #[28] }, none⟩,
    ⟨some 10, .binOp .neq 3 (.tmp 7) (.tmp 9) 3, none⟩])
  (.cond (.tmp 10)
    (.seq
    (.reg [
      ⟨some 4, .assign (.const (.bool false)), none⟩])
    .ret)
    .skip))
  (.seq
  (.seq
  (.reg [
    ⟨some 11, .move (.tmp 0), none⟩,
    ⟨some 12, .call { callee := .builtin .len, args := #[.tmp 11], argTypes := #[28] }, none⟩,
    ⟨some 13, .move (.const (.int .i64 0)), none⟩])
  (.block 0
  (.loop
    (.seq
    (.reg [
      ⟨some 14, .binOp .lss 3 (.tmp 13) (.tmp 12) 3, none⟩])
    (.seq
    (.cond (.tmp 14)
      .skip
      (.exit 0))
    (.seq
    (.block 1
    (.seq
    (.reg [
      ⟨some 15, .move (.tmp 13), none⟩,
      ⟨some 5, .assign (.tmp 15), none⟩])
    (.seq
    (.raw (.region 6 rg87_0 true))
    (.cond (.tmp 24)
      (.seq
      (.reg [
        ⟨some 4, .assign (.const (.bool false)), none⟩])
      .ret)
      .skip))))
    (.reg [
      ⟨some 25, .binOp .add 3 (.tmp 13) (.const (.int .i64 1)) 3, none⟩,
      ⟨some 13, .move (.tmp 25), none⟩])))))))
  (.seq
  (.reg [
    ⟨some 4, .assign (.const (.bool true)), none⟩])
  .ret))))
theorem hd87 : Try.f87.body.map dec = some c87 := by kernel_rfl
theorem e87 {R : AV → AH → Prop} {h : AH} (x0 x1 : AV) (H : h.wf → AI Try.prog c87 (RetQ Try.prog [.tmp 4] R) [x0, x1, un, un, un, un, un, un, un, un, un, un, un, un, un, un, un, un, un, un, un, un, un, un, un, un] h) : AC Try.prog 87 [x0, x1] h R :=
  AC_of' (rs := [.tmp 4]) Try.func87 (by kernel_rfl) hd87 Try.ntmps87 rfl H
theorem dz87_0 {h0 : AH} {L : List It} {Q : Exit → List AV → List It → Prop} {a : List AV} {id : Nat} (H : LX Try.prog ⟨[], []⟩ h0 L L (.c (⟨some 16, .move (.tmp 0), none⟩, .p) <| .c (⟨some 17, .move (.tmp 5), none⟩, .p) <| .c (⟨some 18, .indexAddr 28 (.tmp 16) (.tmp 17), none⟩, .p) <| .c (⟨some 19, .load 108 (.tmp 18), none⟩, .l) <| .c (⟨some 20, .move (.tmp 1), none⟩, .p) <| .c (⟨some 21, .move (.tmp 5), none⟩, .p) <| .c (⟨some 22, .indexAddr 28 (.tmp 20) (.tmp 21), none⟩, .p) <| .c (⟨some 23, .load 108 (.tmp 22), none⟩, .l) <| .c (⟨some 24, .binOp .neq 108 (.tmp 19) (.tmp 23) 108, none⟩, .p) <| .n) Q a) : LI Try.prog h0 L (.raw (.region id rg87_0 true)) Q a :=
  LI_draw (.c (0, .p) <| .c (1, .p) <| .c (2, .p) <| .c (3, .l) <| .c (4, .p) <| .c (5, .p) <| .c (6, .p) <| .c (7, .l) <| .c (8, .p) <| .n) [] (by kernel_rfl) (by kernel_rfl) (by kernel_rfl) H
theorem dr87_0 (m : Nat) {Q : Exit → List AV → AH → Prop} {a : List AV} {h : AH} {id : Nat} (H : AX Try.prog m h [(⟨some 16, .move (.tmp 0), none⟩, true),
  (⟨some 17, .move (.tmp 5), none⟩, true),
  (⟨some 18, .indexAddr 28 (.tmp 16) (.tmp 17), none⟩, true),
  (⟨some 19, .load 108 (.tmp 18), none⟩, true),
  (⟨some 20, .move (.tmp 1), none⟩, true),
  (⟨some 21, .move (.tmp 5), none⟩, true),
  (⟨some 22, .indexAddr 28 (.tmp 20) (.tmp 21), none⟩, true),
  (⟨some 23, .load 108 (.tmp 22), none⟩, true),
  (⟨some 24, .binOp .neq 108 (.tmp 19) (.tmp 23) 108, none⟩, true)] (fun a' h' => Q .normal a' h') a h) : AI Try.prog (.raw (.region id rg87_0 true)) Q a h :=
  AI_draw [(0, true), (1, true), (2, true), (3, true), (4, true), (5, true), (6, true), (7, true), (8, true)] m (by kernel_rfl) (by kernel_rfl) (by kernel_rfl) H

noncomputable def rg88_0 : Array Oper := rawAt Try.f88 0
/-- laws.pSameInts -/
noncomputable def c88 : IC :=
  (.seq
  (.reg [
    ⟨some 4, .assign (.const (.bool false)), none⟩])
  (.seq
  (.seq
  (.reg [
    ⟨some 6, .move (.tmp 0), none⟩,
    ⟨some 7, .call { callee := .builtin .len, args := #[.tmp 6], argTypes := #[29] }, none⟩,
    ⟨some 8, .move (.tmp 1), none⟩,
    ⟨some 9, .call { callee := .builtin .len, args := #[.tmp 8], argTypes := #[29] }, none⟩,
    ⟨some 10, .binOp .neq 3 (.tmp 7) (.tmp 9) 3, none⟩])
  (.cond (.tmp 10)
    (.seq
    (.reg [
      ⟨some 4, .assign (.const (.bool false)), none⟩])
    .ret)
    .skip))
  (.seq
  (.seq
  (.reg [
    ⟨some 11, .move (.tmp 0), none⟩,
    ⟨some 12, .call { callee := .builtin .len, args := #[.tmp 11], argTypes := #[29] }, none⟩,
    ⟨some 13, .move (.const (.int .i64 0)), none⟩])
  (.block 0
  (.loop
    (.seq
    (.reg [
      ⟨some 14, .binOp .lss 3 (.tmp 13) (.tmp 12) 3, none⟩])
    (.seq
    (.cond (.tmp 14)
      .skip
      (.exit 0))
    (.seq
    (.block 1
    (.seq
    (.reg [
      ⟨some 15, .move (.tmp 13), none⟩,
      ⟨some 5, .assign (.tmp 15), none⟩])
    (.seq
    (.raw (.region 6 rg88_0 true))
    (.cond (.tmp 24)
      (.seq
      (.reg [
        ⟨some 4, .assign (.const (.bool false)), none⟩])
      .ret)
      .skip))))
    (.reg [
      ⟨some 25, .binOp .add 3 (.tmp 13) (.const (.int .i64 1)) 3, none⟩,
      ⟨some 13, .move (.tmp 25), none⟩])))))))
  (.seq
  (.reg [
    ⟨some 4, .assign (.const (.bool true)), none⟩])
  .ret))))
theorem hd88 : Try.f88.body.map dec = some c88 := by kernel_rfl
theorem e88 {R : AV → AH → Prop} {h : AH} (x0 x1 : AV) (H : h.wf → AI Try.prog c88 (RetQ Try.prog [.tmp 4] R) [x0, x1, un, un, un, un, un, un, un, un, un, un, un, un, un, un, un, un, un, un, un, un, un, un, un, un] h) : AC Try.prog 88 [x0, x1] h R :=
  AC_of' (rs := [.tmp 4]) Try.func88 (by kernel_rfl) hd88 Try.ntmps88 rfl H
theorem dz88_0 {h0 : AH} {L : List It} {Q : Exit → List AV → List It → Prop} {a : List AV} {id : Nat} (H : LX Try.prog ⟨[], []⟩ h0 L L (.c (⟨some 16, .move (.tmp 0), none⟩, .p) <| .c (⟨some 17, .move (.tmp 5), none⟩, .p) <| .c (⟨some 18, .indexAddr 29 (.tmp 16) (.tmp 17), none⟩, .p) <| .c (⟨some 19, .load 3 (.tmp 18), none⟩, .l) <| .c (⟨some 20, .move (.tmp 1), none⟩, .p) <| .c (⟨some 21, .move (.tmp 5), none⟩, .p) <| .c (⟨some 22, .indexAddr 29 (.tmp 20) (.tmp 21), none⟩, .p) <| .c (⟨some 23, .load 3 (.tmp 22), none⟩, .l) <| .c (⟨some 24, .binOp .neq 3 (.tmp 19) (.tmp 23) 3, none⟩, .p) <| .n) Q a) : LI Try.prog h0 L (.raw (.region id rg88_0 true)) Q a :=
  LI_draw (.c (0, .p) <| .c (1, .p) <| .c (2, .p) <| .c (3, .l) <| .c (4, .p) <| .c (5, .p) <| .c (6, .p) <| .c (7, .l) <| .c (8, .p) <| .n) [] (by kernel_rfl) (by kernel_rfl) (by kernel_rfl) H
theorem dr88_0 (m : Nat) {Q : Exit → List AV → AH → Prop} {a : List AV} {h : AH} {id : Nat} (H : AX Try.prog m h [(⟨some 16, .move (.tmp 0), none⟩, true),
  (⟨some 17, .move (.tmp 5), none⟩, true),
  (⟨some 18, .indexAddr 29 (.tmp 16) (.tmp 17), none⟩, true),
  (⟨some 19, .load 3 (.tmp 18), none⟩, true),
  (⟨some 20, .move (.tmp 1), none⟩, true),
  (⟨some 21, .move (.tmp 5), none⟩, true),
  (⟨some 22, .indexAddr 29 (.tmp 20) (.tmp 21), none⟩, true),
  (⟨some 23, .load 3 (.tmp 22), none⟩, true),
  (⟨some 24, .binOp .neq 3 (.tmp 19) (.tmp 23) 3, none⟩, true)] (fun a' h' => Q .normal a' h') a h) : AI Try.prog (.raw (.region id rg88_0 true)) Q a h :=
  AI_draw [(0, true), (1, true), (2, true), (3, true), (4, true), (5, true), (6, true), (7, true), (8, true)] m (by kernel_rfl) (by kernel_rfl) (by kernel_rfl) H

/-- laws.pSamePlan -/
def c32 : IC :=
  (.seq
  (.reg [
    ⟨some 2, .box 31 (.tmp 0), none⟩,
    ⟨some 3, .box 31 (.tmp 1), none⟩,
    ⟨some 4, .assign (.const (.bool false)), none⟩])
  (.seq
  (.reg [
    ⟨some 5, .fieldAddr 31 (.tmp 2) 0, none⟩,
    ⟨some 6, .load 3 (.tmp 5), none⟩,
    ⟨some 7, .fieldAddr 31 (.tmp 3) 0, none⟩,
    ⟨some 8, .load 3 (.tmp 7), none⟩,
    ⟨some 9, .binOp .eql 3 (.tmp 6) (.tmp 8) 3, none⟩,
    ⟨some 10, .move (.tmp 9), none⟩,
    ⟨some 11, .fieldAddr 31 (.tmp 2) 1, some (10, true)⟩,
    ⟨some 12, .load 28 (.tmp 11), some (10, true)⟩,
    ⟨some 13, .fieldAddr 31 (.tmp 3) 1, some (10, true)⟩,
    ⟨some 14, .load 28 (.tmp 13), some (10, true)⟩,
    ⟨some 15, .call { callee := .value (.func 87), args := #[.tmp 12, .tmp 14], argTypes := #[28, 28] }, some (10, true)⟩,
    ⟨some 16, .pick (.tmp 10) (.tmp 15) (.const (.bool false)), none⟩,
    ⟨some 17, .move (.tmp 16), none⟩,
    ⟨some 18, .fieldAddr 31 (.tmp 2) 2, some (17, true)⟩,
    ⟨some 19, .load 29 (.tmp 18), some (17, true)⟩,
    ⟨some 20, .fieldAddr 31 (.tmp 3) 2, some (17, true)⟩,
    ⟨some 21, .load 29 (.tmp 20), some (17, true)⟩,
    ⟨some 22, .call { callee := .value (.func 88), args := #[.tmp 19, .tmp 21], argTypes := #[29, 29] }, some (17, true)⟩,
    ⟨some 23, .pick (.tmp 17) (.tmp 22) (.const (.bool false)), none⟩,
    ⟨some 4, .assign (.tmp 23), none⟩])
  .ret))
theorem hd32 : Try.f32.body.map dec = some c32 := by kernel_rfl
theorem e32 {R : AV → AH → Prop} {h : AH} (x0 x1 : AV) (H : h.wf → AI Try.prog c32 (RetQ Try.prog [.tmp 4] R) [x0, x1, un, un, un, un, un, un, un, un, un, un, un, un, un, un, un, un, un, un, un, un, un, un] h) : AC Try.prog 32 [x0, x1] h R :=
  AC_of' (rs := [.tmp 4]) Try.func32 (by kernel_rfl) hd32 Try.ntmps32 rfl H

/-- (*impl.Plan).outputExponents -/
def c89 : IC :=
  (.seq
  (.reg [
    ⟨some 2, .assign (.const (.slice none 0 0)), none⟩])
  (.seq
  (.reg [
    ⟨some 7, .move (.tmp 0), none⟩,
    ⟨some 8, .call { callee := .value (.func 133), args := #[.tmp 7], argTypes := #[87] }, none⟩,
    ⟨some 9, .buildSlice 39 0 #[], none⟩,
    ⟨some 3, .assign (.tmp 8), none⟩,
    ⟨some 4, .assign (.tmp 9), none⟩])
  (.seq
  (.seq
  (.reg [
    ⟨some 10, .move (.tmp 0), none⟩,
    ⟨some 11, .nilCheck (.tmp 10), none⟩,
    ⟨some 12, .fieldAddr 31 (.tmp 11) 2, none⟩,
    ⟨some 13, .load 29 (.tmp 12), none⟩,
    ⟨some 14, .call { callee := .builtin .len, args := #[.tmp 13], argTypes := #[29] }, none⟩,
    ⟨some 15, .move (.const (.int .i64 0)), none⟩])
  (.block 0
  (.loop
    (.seq
    (.reg [
      ⟨some 16, .binOp .lss 3 (.tmp 15) (.tmp 14) 3, none⟩])
    (.seq
    (.cond (.tmp 16)
      .skip
      (.exit 0))
    (.seq
    (.block 1
    (.seq
    (.reg [
      ⟨some 17, .indexAddr 29 (.tmp 13) (.tmp 15), none⟩,
      ⟨some 18, .load 3 (.tmp 17), none⟩,
      ⟨some 6, .assign (.tmp 18), none⟩])
    (.reg [
      ⟨some 19, .move (.tmp 4), none⟩,
      ⟨some 20, .move (.tmp 3), none⟩,
      ⟨some 21, .move (.tmp 6), none⟩,
      ⟨some 22, .indexAddr 39 (.tmp 20) (.tmp 21), none⟩,
      ⟨some 23, .load 29 (.tmp 22), none⟩,
      ⟨some 24, .call { callee := .value (.func 135), args := #[.tmp 23], argTypes := #[29] }, none⟩,
      ⟨some 25, .buildSlice 39 1 #[(0, .tmp 24)], none⟩,
      ⟨some 26, .call { callee := .builtin .append, args := #[.tmp 19, .tmp 25], argTypes := #[39, 39] }, none⟩,
      ⟨some 4, .assign (.tmp 26), none⟩])))
    (.reg [
      ⟨some 27, .binOp .add 3 (.tmp 15) (.const (.int .i64 1)) 3, none⟩,
      ⟨some 15, .move (.tmp 27), none⟩])))))))
  (.seq
  (.reg [
    ⟨some 28, .move (.tmp 4), none⟩,
    ⟨some 2, .assign (.tmp 28), none⟩])
  .ret))))
theorem hd89 : Try.f89.body.map dec = some c89 := by kernel_rfl
theorem e89 {R : AV → AH → Prop} {h : AH} (x0 : AV) (H : h.wf → AI Try.prog c89 (RetQ Try.prog [.tmp 2] R) [x0, un, un, un, un, un, un, un, un, un, un, un, un, un, un, un, un, un, un, un, un, un, un, un, un, un, un, un, un] h) : AC Try.prog 89 [x0] h R :=
  AC_of' (rs := [.tmp 2]) Try.func89 (by kernel_rfl) hd89 Try.ntmps89 rfl H

/-- impl.OutputExponents -/
def c33 : IC :=
  (.seq
  (.reg [
    ⟨some 1, .box 31 (.tmp 0), none⟩,
    ⟨some 2, .assign (.const (.slice none 0 0)), none⟩,
    ⟨some 3, .assign (.const (.bool false)), none⟩])
  (.seq
  (.seq
  (.reg [
    ⟨some 4, .load 31 (.tmp 1), none⟩,
    ⟨some 5, .call { callee := .value (.func 81), args := #[.tmp 4], argTypes := #[31] }, none⟩,
    ⟨some 6, .unOp .not 4 (.tmp 5), none⟩])
  (.cond (.tmp 6)
    (.seq
    (.reg [
      ⟨some 2, .assign (.const (.slice none 0 0)), none⟩,
      ⟨some 3, .assign (.const (.bool false)), none⟩])
    .ret)
    .skip))
  (.seq
  (.reg [
    ⟨some 7, .call { callee := .value (.func 89), args := #[.tmp 1], argTypes := #[31] }, none⟩,
    ⟨some 2, .assign (.tmp 7), none⟩,
    ⟨some 3, .assign (.const (.bool true)), none⟩])
  .ret)))
theorem hd33 : Try.f33.body.map dec = some c33 := by kernel_rfl
theorem e33 {R : AV → AH → Prop} {h : AH} (x0 : AV) (H : h.wf → AI Try.prog c33 (RetQ Try.prog [.tmp 2, .tmp 3] R) [x0, un, un, un, un, un, un, un] h) : AC Try.prog 33 [x0] h R :=
  AC_of' (rs := [.tmp 2, .tmp 3]) Try.func33 (by kernel_rfl) hd33 Try.ntmps33 rfl H

/-- laws.FnComposedExponents -/
def c8 : IC :=
  (.seq
  (.reg [
    ⟨some 4, .assign (.const (.bool false)), none⟩])
  (.seq
  (.seq
  (.reg [
    ⟨some 23, .move (.tmp 0), none⟩,
    ⟨some 24, .move (.tmp 1), none⟩,
    ⟨some 25, .call { callee := .value (.func 19), args := #[.tmp 23, .tmp 24], argTypes := #[25, 25] }, none⟩])
  (.cond (.tmp 25)
    (.seq
    (.reg [
      ⟨some 4, .assign (.const (.bool true)), none⟩])
    .ret)
    .skip))
  (.seq
  (.reg [
    ⟨some 27, .move (.tmp 0), none⟩,
    ⟨some 28, .call { callee := .value (.func 29), args := #[.tmp 27], argTypes := #[25] }, none⟩,
    ⟨some 26, .move (.tmp 28), none⟩,
    ⟨some 29, .extract (.tmp 26) 0, none⟩,
    ⟨some 30, .extract (.tmp 26) 1, none⟩,
    ⟨some 5, .alloc 31, none⟩,
    ⟨some 6, .alloc 31, none⟩,
    ⟨none, .store 31 (.tmp 5) (.tmp 29), none⟩,
    ⟨none, .store 31 (.tmp 6) (.tmp 30), none⟩])
  (.seq
  (.reg [
    ⟨some 32, .load 31 (.tmp 5), none⟩,
    ⟨some 33, .load 31 (.tmp 6), none⟩,
    ⟨some 34, .call { callee := .value (.func 30), args := #[.tmp 32, .tmp 33], argTypes := #[31, 31] }, none⟩,
    ⟨some 31, .move (.tmp 34), none⟩,
    ⟨some 35, .extract (.tmp 31) 0, none⟩,
    ⟨some 36, .extract (.tmp 31) 1, none⟩,
    ⟨some 7, .alloc 31, none⟩,
    ⟨none, .store 31 (.tmp 7) (.tmp 35), none⟩,
    ⟨some 8, .assign (.tmp 36), none⟩])
  (.seq
  (.reg [
    ⟨some 38, .load 31 (.tmp 5), none⟩,
    ⟨some 39, .load 31 (.tmp 6), none⟩,
    ⟨some 40, .call { callee := .value (.func 31), args := #[.tmp 38, .tmp 39], argTypes := #[31, 31] }, none⟩,
    ⟨some 37, .move (.tmp 40), none⟩,
    ⟨some 41, .extract (.tmp 37) 0, none⟩,
    ⟨some 42, .extract (.tmp 37) 1, none⟩,
    ⟨some 9, .alloc 31, none⟩,
    ⟨none, .store 31 (.tmp 9) (.tmp 41), none⟩,
    ⟨some 10, .assign (.tmp 42), none⟩])
  (.seq
  (.seq
  (.reg [
    ⟨some 43, .move (.tmp 8), none⟩,
    ⟨some 44, .move (.tmp 10), none⟩,
    ⟨some 45, .binOp .neq 4 (.tmp 43) (.tmp 44) 4, none⟩,
    ⟨some 46, .move (.tmp 45), none⟩,
    ⟨some 47, .load 31 (.tmp 7), some (46, false)⟩,
    ⟨some 48, .load 31 (.tmp 9), some (46, false)⟩,
    ⟨some 49, .call { callee := .value (.func 32), args := #[.tmp 47, .tmp 48], argTypes := #[31, 31] }, some (46, false)⟩,
    ⟨some 50, .unOp .not 4 (.tmp 49), some (46, false)⟩,
    ⟨some 51, .pick (.tmp 46) (.const (.bool true)) (.tmp 50), none⟩])
  (.cond (.tmp 51)
    (.seq
    (.reg [
      ⟨some 4, .assign (.const (.bool false)), none⟩])
    .ret)
    .skip))
  (.seq
  (.seq
  (.reg [
    ⟨some 52, .move (.tmp 10), none⟩,
    ⟨some 53, .unOp .not 4 (.tmp 52), none⟩])
  (.cond (.tmp 53)
    (.seq
    (.reg [
      ⟨some 4, .assign (.const (.bool true)), none⟩])
    .ret)
    .skip))
  (.seq
  (.reg [
    ⟨some 55, .load 31 (.tmp 5), none⟩,
    ⟨some 56, .call { callee := .value (.func 33), args := #[.tmp 55], argTypes := #[31] }, none⟩,
    ⟨some 54, .move (.tmp 56), none⟩,
    ⟨some 57, .extract (.tmp 54) 0, none⟩,
    ⟨some 58, .extract (.tmp 54) 1, none⟩,
    ⟨some 11, .assign (.tmp 57), none⟩,
    ⟨some 12, .assign (.tmp 58), none⟩])
  (.seq
  (.reg [
    ⟨some 60, .load 31 (.tmp 6), none⟩,
    ⟨some 61, .call { callee := .value (.func 33), args := #[.tmp 60], argTypes := #[31] }, none⟩,
    ⟨some 59, .move (.tmp 61), none⟩,
    ⟨some 62, .extract (.tmp 59) 0, none⟩,
    ⟨some 63, .extract (.tmp 59) 1, none⟩,
    ⟨some 13, .assign (.tmp 62), none⟩,
    ⟨some 14, .assign (.tmp 63), none⟩])
  (.seq
  (.reg [
    ⟨some 65, .load 31 (.tmp 7), none⟩,
    ⟨some 66, .call { callee := .value (.func 33), args := #[.tmp 65], argTypes := #[31] }, none⟩,
    ⟨some 64, .move (.tmp 66), none⟩,
    ⟨some 67, .extract (.tmp 64) 0, none⟩,
    ⟨some 68, .extract (.tmp 64) 1, none⟩,
    ⟨some 15, .assign (.tmp 67), none⟩,
    ⟨some 16, .assign (.tmp 68), none⟩])
  (.seq
  (.seq
  (.reg [
    ⟨some 69, .move (.tmp 12), none⟩,
    ⟨some 70, .unOp .not 4 (.tmp 69), none⟩,
    ⟨some 71, .move (.tmp 70), none⟩,
    ⟨some 72, .move (.tmp 14), some (71, false)⟩,
    ⟨some 73, .unOp .not 4 (.tmp 72), some (71, false)⟩,
    ⟨some 74, .pick (.tmp 71) (.const (.bool true)) (.tmp 73), none⟩,
    ⟨some 75, .move (.tmp 74), none⟩,
    ⟨some 76, .move (.tmp 16), some (75, false)⟩,
    ⟨some 77, .unOp .not 4 (.tmp 76), some (75, false)⟩,
    ⟨some 78, .pick (.tmp 75) (.const (.bool true)) (.tmp 77), none⟩,
    ⟨some 79, .move (.tmp 78), none⟩,
    ⟨some 80, .move (.tmp 15), some (79, false)⟩,
    ⟨some 81, .call { callee := .builtin .len, args := #[.tmp 80], argTypes := #[39] }, some (79, false)⟩,
    ⟨some 82, .move (.tmp 13), some (79, false)⟩,
    ⟨some 83, .call { callee := .builtin .len, args := #[.tmp 82], argTypes := #[39] }, some (79, false)⟩,
    ⟨some 84, .binOp .neq 3 (.tmp 81) (.tmp 83) 3, some (79, false)⟩,
    ⟨some 85, .pick (.tmp 79) (.const (.bool true)) (.tmp 84), none⟩,
    ⟨some 86, .move (.tmp 85), none⟩,
    ⟨some 87, .fieldAddr 31 (.tmp 7) 1, some (86, false)⟩,
    ⟨some 88, .load 28 (.tmp 87), some (86, false)⟩,
    ⟨some 89, .call { callee := .builtin .len, args := #[.tmp 88], argTypes := #[28] }, some (86, false)⟩,
    ⟨some 90, .fieldAddr 31 (.tmp 5) 1, some (86, false)⟩,
    ⟨some 91, .load 28 (.tmp 90), some (86, false)⟩,
    ⟨some 92, .call { callee := .builtin .len, args := #[.tmp 91], argTypes := #[28] }, some (86, false)⟩,
    ⟨some 93, .fieldAddr 31 (.tmp 6) 1, some (86, false)⟩,
    ⟨some 94, .load 28 (.tmp 93), some (86, false)⟩,
    ⟨some 95, .call { callee := .builtin .len, args := #[.tmp 94], argTypes := #[28] }, some (86, false)⟩,
    ⟨some 96, .binOp .add 3 (.tmp 92) (.tmp 95) 3, some (86, false)⟩,
    ⟨some 97, .binOp .neq 3 (.tmp 89) (.tmp 96) 3, some (86, false)⟩,
    ⟨some 98, .pick (.tmp 86) (.const (.bool true)) (.tmp 97), none⟩])
  (.cond (.tmp 98)
    (.seq
    (.reg [
      ⟨some 4, .assign (.const (.bool false)), none⟩])
    .ret)
    .skip))
  (.seq
  (.seq
  (.reg [
    ⟨some 99, .move (.tmp 13), none⟩,
    ⟨some 100, .call { callee := .builtin .len, args := #[.tmp 99], argTypes := #[39] }, none⟩,
    ⟨some 101, .move (.const (.int .i64 0)), none⟩])
  (.block 0
  (.loop
    (.seq
    (.reg [
      ⟨some 102, .binOp .lss 3 (.tmp 101) (.tmp 100) 3, none⟩])
    (.seq
    (.cond (.tmp 102)
      .skip
      (.exit 0))
    (.seq
    (.block 1
    (.seq
    (.reg [
      ⟨some 103, .move (.tmp 101), none⟩,
      ⟨some 104, .indexAddr 39 (.tmp 99) (.tmp 101), none⟩,
      ⟨some 105, .load 29 (.tmp 104), none⟩,
      ⟨some 17, .assign (.tmp 103), none⟩,
      ⟨some 18, .assign (.tmp 105), none⟩])
    (.seq
    (.reg [
      ⟨some 19, .assign (.const (.int .i64 0)), none⟩])
    (.block 2
    (.loop
      (.seq
      (.seq
      (.reg [
        ⟨some 106, .move (.tmp 19), none⟩,
        ⟨some 107, .fieldAddr 31 (.tmp 5) 0, none⟩,
        ⟨some 108, .load 3 (.tmp 107), none⟩,
        ⟨some 109, .binOp .lss 3 (.tmp 106) (.tmp 108) 3, none⟩])
      (.cond (.tmp 109)
        .skip
        (.exit 2)))
      (.seq
      (.block 3
      (.seq
      (.reg [
        ⟨some 20, .assign (.const (.int .i64 0)), none⟩])
      (.seq
      (.seq
      (.reg [
        ⟨some 112, .move (.tmp 18), none⟩,
        ⟨some 113, .call { callee := .builtin .len, args := #[.tmp 112], argTypes := #[29] }, none⟩,
        ⟨some 114, .move (.const (.int .i64 0)), none⟩])
      (.block 4
      (.loop
        (.seq
        (.reg [
          ⟨some 115, .binOp .lss 3 (.tmp 114) (.tmp 113) 3, none⟩])
        (.seq
        (.cond (.tmp 115)
          .skip
          (.exit 4))
        (.seq
        (.block 5
        (.seq
        (.reg [
          ⟨some 116, .move (.tmp 114), none⟩,
          ⟨some 117, .indexAddr 29 (.tmp 112) (.tmp 114), none⟩,
          ⟨some 118, .load 3 (.tmp 117), none⟩,
          ⟨some 21, .assign (.tmp 116), none⟩,
          ⟨some 22, .assign (.tmp 118), none⟩])
        (.reg [
          ⟨some 119, .move (.tmp 20), none⟩,
          ⟨some 120, .move (.tmp 22), none⟩,
          ⟨some 121, .move (.tmp 11), none⟩,
          ⟨some 122, .move (.tmp 21), none⟩,
          ⟨some 123, .indexAddr 39 (.tmp 121) (.tmp 122), none⟩,
          ⟨some 124, .load 29 (.tmp 123), none⟩,
          ⟨some 125, .move (.tmp 19), none⟩,
          ⟨some 126, .indexAddr 29 (.tmp 124) (.tmp 125), none⟩,
          ⟨some 127, .load 3 (.tmp 126), none⟩,
          ⟨some 128, .binOp .mul 3 (.tmp 120) (.tmp 127) 3, none⟩,
          ⟨some 129, .binOp .add 3 (.tmp 119) (.tmp 128) 3, none⟩,
          ⟨some 20, .assign (.tmp 129), none⟩])))
        (.reg [
          ⟨some 130, .binOp .add 3 (.tmp 114) (.const (.int .i64 1)) 3, none⟩,
          ⟨some 114, .move (.tmp 130), none⟩])))))))
      (.seq
      (.reg [
        ⟨some 131, .move (.tmp 15), none⟩,
        ⟨some 132, .move (.tmp 17), none⟩,
        ⟨some 133, .indexAddr 39 (.tmp 131) (.tmp 132), none⟩,
        ⟨some 134, .load 29 (.tmp 133), none⟩,
        ⟨some 135, .move (.tmp 19), none⟩,
        ⟨some 136, .indexAddr 29 (.tmp 134) (.tmp 135), none⟩,
        ⟨some 137, .load 3 (.tmp 136), none⟩,
        ⟨some 138, .move (.tmp 20), none⟩,
        ⟨some 139, .binOp .neq 3 (.tmp 137) (.tmp 138) 3, none⟩])
      (.cond (.tmp 139)
        (.seq
        (.reg [
          ⟨some 4, .assign (.const (.bool false)), none⟩])
        .ret)
        .skip)))))
      (.reg [
        ⟨some 110, .move (.tmp 19), none⟩,
        ⟨some 111, .binOp .add 3 (.tmp 110) (.const (.int .i64 1)) 3, none⟩,
        ⟨some 19, .assign (.tmp 111), none⟩]))))))))
    (.reg [
      ⟨some 140, .binOp .add 3 (.tmp 101) (.const (.int .i64 1)) 3, none⟩,
      ⟨some 101, .move (.tmp 140), none⟩])))))))
  (.seq
  (.reg [
    ⟨some 4, .assign (.const (.bool true)), none⟩])
  .ret)))))))))))))
theorem hd8 : Try.f8.body.map dec = some c8 := by kernel_rfl
theorem e8 {R : AV → AH → Prop} {h : AH} (x0 x1 : AV) (H : h.wf → AI Try.prog c8 (RetQ Try.prog [.tmp 4] R) [x0, x1, un, un, un, un, un, un, un, un, un, un, un, un, un, un, un, un, un, un, un, un, un, un, un, un, un, un, un, un, un, un, un, un, un, un, un, un, un, un, un, un, un, un, un, un, un, un, un, un, un, un, un, un, un, un, un, un, un, un, un, un, un, un, un, un, un, un, un, un, un, un, un, un, un, un, un, un, un, un, un, un, un, un, un, un, un, un, un, un, un, un, un, un, un, un, un, un, un, un, un, un, un, un, un, un, un, un, un, un, un, un, un, un, un, un, un, un, un, un, un, un, un, un, un, un, un, un, un, un, un, un, un, un, un, un, un, un, un, un, un] h) : AC Try.prog 8 [x0, x1] h R :=
  AC_of' (rs := [.tmp 4]) Try.func8 (by kernel_rfl) hd8 Try.ntmps8 rfl H

end Go.Proofs.Ytdcliofmdlhmaaa
