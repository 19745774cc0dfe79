/- The short forms of the functions' code, and facts on types. -/
import Derived.Test.YtdeeeacnmkmeiaaProg
import Derived.Test.YtdeeeacnmkmeiaaD2
namespace Go.Proofs.Ytdeeeacnmkmeiaa
open Go.AL
set_option linter.unusedVariables false
theorem sz0 : szT Try.prog 0 = some 1 := by kernel_rfl
theorem by0 : byT Try.prog 0 = some 0 := by kernel_rfl
theorem ag0 : aggT Try.prog 0 = some false := by kernel_rfl
instance jsz0 : Tsz Try.prog 0 1 := ⟨sz0⟩
instance jby0 : Tby Try.prog 0 0 := ⟨by0⟩
instance jag0 : Tag Try.prog 0 false := ⟨ag0⟩
theorem sz1 : szT Try.prog 1 = some 1 := by kernel_rfl
theorem by1 : byT Try.prog 1 = some 8 := by kernel_rfl
theorem ag1 : aggT Try.prog 1 = some false := by kernel_rfl
instance jsz1 : Tsz Try.prog 1 1 := ⟨sz1⟩
instance jby1 : Tby Try.prog 1 8 := ⟨by1⟩
instance jag1 : Tag Try.prog 1 false := ⟨ag1⟩
theorem ze1 : zeroA Try.prog 1 = some .nf := by kernel_rfl
instance jze1 : Tze Try.prog 1 (.nf) := ⟨ze1⟩
theorem sz2 : szT Try.prog 2 = some 1 := by kernel_rfl
theorem by2 : byT Try.prog 2 = some 8 := by kernel_rfl
theorem ag2 : aggT Try.prog 2 = some false := by kernel_rfl
instance jsz2 : Tsz Try.prog 2 1 := ⟨sz2⟩
instance jby2 : Tby Try.prog 2 8 := ⟨by2⟩
instance jag2 : Tag Try.prog 2 false := ⟨ag2⟩
instance jik2 : Tik Try.prog 2 .i64 := ⟨Try.underlying2⟩
theorem ze2 : zeroA Try.prog 2 = some (.i .i64 0) := by kernel_rfl
instance jze2 : Tze Try.prog 2 (.i .i64 0) := ⟨ze2⟩
theorem sz3 : szT Try.prog 3 = some 1 := by kernel_rfl
theorem by3 : byT Try.prog 3 = some 8 := by kernel_rfl
theorem ag3 : aggT Try.prog 3 = some false := by kernel_rfl
instance jsz3 : Tsz Try.prog 3 1 := ⟨sz3⟩
instance jby3 : Tby Try.prog 3 8 := ⟨by3⟩
instance jag3 : Tag Try.prog 3 false := ⟨ag3⟩
instance jik3 : Tik Try.prog 3 .i64 := ⟨Try.underlying3⟩
theorem ze3 : zeroA Try.prog 3 = some (.i .i64 0) := by kernel_rfl
instance jze3 : Tze Try.prog 3 (.i .i64 0) := ⟨ze3⟩
theorem sz4 : szT Try.prog 4 = some 1 := by kernel_rfl
theorem by4 : byT Try.prog 4 = some 1 := by kernel_rfl
theorem ag4 : aggT Try.prog 4 = some false := by kernel_rfl
instance jsz4 : Tsz Try.prog 4 1 := ⟨sz4⟩
instance jby4 : Tby Try.prog 4 1 := ⟨by4⟩
instance jag4 : Tag Try.prog 4 false := ⟨ag4⟩
instance jbo4 : Tbo Try.prog 4 := ⟨Try.underlying4⟩
theorem ze4 : zeroA Try.prog 4 = some (.b false) := by kernel_rfl
instance jze4 : Tze Try.prog 4 (.b false) := ⟨ze4⟩
theorem sz5 : szT Try.prog 5 = some 1 := by kernel_rfl
theorem by5 : byT Try.prog 5 = some 1 := by kernel_rfl
theorem ag5 : aggT Try.prog 5 = some false := by kernel_rfl
instance jsz5 : Tsz Try.prog 5 1 := ⟨sz5⟩
instance jby5 : Tby Try.prog 5 1 := ⟨by5⟩
instance jag5 : Tag Try.prog 5 false := ⟨ag5⟩
instance jik5 : Tik Try.prog 5 .u8 := ⟨Try.underlying5⟩
theorem ze5 : zeroA Try.prog 5 = some (.i .u8 0) := by kernel_rfl
instance jze5 : Tze Try.prog 5 (.i .u8 0) := ⟨ze5⟩
theorem sz6 : szT Try.prog 6 = some 1 := by kernel_rfl
theorem by6 : byT Try.prog 6 = some 1 := by kernel_rfl
theorem ag6 : aggT Try.prog 6 = some false := by kernel_rfl
instance jsz6 : Tsz Try.prog 6 1 := ⟨sz6⟩
instance jby6 : Tby Try.prog 6 1 := ⟨by6⟩
instance jag6 : Tag Try.prog 6 false := ⟨ag6⟩
instance jik6 : Tik Try.prog 6 .u8 := ⟨Try.underlying6⟩
theorem ze6 : zeroA Try.prog 6 = some (.i .u8 0) := by kernel_rfl
instance jze6 : Tze Try.prog 6 (.i .u8 0) := ⟨ze6⟩
theorem sz22 : szT Try.prog 22 = some 1 := by kernel_rfl
theorem by22 : byT Try.prog 22 = some 24 := by kernel_rfl
theorem ag22 : aggT Try.prog 22 = some false := by kernel_rfl
instance jsz22 : Tsz Try.prog 22 1 := ⟨sz22⟩
instance jby22 : Tby Try.prog 22 24 := ⟨by22⟩
instance jag22 : Tag Try.prog 22 false := ⟨ag22⟩
instance jsl22 : Tsl Try.prog 22 5 := ⟨Try.underlying22⟩
theorem ze22 : zeroA Try.prog 22 = some .ns := by kernel_rfl
instance jze22 : Tze Try.prog 22 (.ns) := ⟨ze22⟩
theorem sz24 : szT Try.prog 24 = some 1 := by kernel_rfl
theorem by24 : byT Try.prog 24 = some 24 := by kernel_rfl
theorem ag24 : aggT Try.prog 24 = some false := by kernel_rfl
instance jsz24 : Tsz Try.prog 24 1 := ⟨sz24⟩
instance jby24 : Tby Try.prog 24 24 := ⟨by24⟩
instance jag24 : Tag Try.prog 24 false := ⟨ag24⟩
instance jsl24 : Tsl Try.prog 24 35 := ⟨Try.underlying24⟩
theorem ze24 : zeroA Try.prog 24 = some .ns := by kernel_rfl
instance jze24 : Tze Try.prog 24 (.ns) := ⟨ze24⟩
theorem sz25 : szT Try.prog 25 = some 1 := by kernel_rfl
theorem by25 : byT Try.prog 25 = some 24 := by kernel_rfl
theorem ag25 : aggT Try.prog 25 = some false := by kernel_rfl
instance jsz25 : Tsz Try.prog 25 1 := ⟨sz25⟩
instance jby25 : Tby Try.prog 25 24 := ⟨by25⟩
instance jag25 : Tag Try.prog 25 false := ⟨ag25⟩
instance jsl25 : Tsl Try.prog 25 3 := ⟨Try.underlying25⟩
theorem ze25 : zeroA Try.prog 25 = some .ns := by kernel_rfl
instance jze25 : Tze Try.prog 25 (.ns) := ⟨ze25⟩
theorem sz27 : szT Try.prog 27 = some 3 := by kernel_rfl
theorem by27 : byT Try.prog 27 = some 56 := by kernel_rfl
theorem ag27 : aggT Try.prog 27 = some true := by kernel_rfl
instance jsz27 : Tsz Try.prog 27 3 := ⟨sz27⟩
instance jby27 : Tby Try.prog 27 56 := ⟨by27⟩
instance jag27 : Tag Try.prog 27 true := ⟨ag27⟩
theorem ze27 : zeroA Try.prog 27 = some (.agg [(.i .i64 0), .ns, .ns]) := by kernel_rfl
instance jze27 : Tze Try.prog 27 (.agg [(.i .i64 0), .ns, .ns]) := ⟨ze27⟩
theorem fl27_0 : fldA Try.prog 27 0 = some (0, 1, false) := by kernel_rfl
instance jfl27_0 : Tfl Try.prog 27 0 0 1 false := ⟨fl27_0⟩
theorem fl27_1 : fldA Try.prog 27 1 = some (1, 1, false) := by kernel_rfl
instance jfl27_1 : Tfl Try.prog 27 1 1 1 false := ⟨fl27_1⟩
theorem fl27_2 : fldA Try.prog 27 2 = some (2, 1, false) := by kernel_rfl
instance jfl27_2 : Tfl Try.prog 27 2 2 1 false := ⟨fl27_2⟩
theorem pa27 : plA Try.prog 27 = some [(0, 1), (1, 1), (2, 1)] := by kernel_rfl
instance jpl27 : Tpl Try.prog 27 [(0, 1), (1, 1), (2, 1)] := ⟨pa27⟩
theorem sz35 : szT Try.prog 35 = some 2 := by kernel_rfl
theorem by35 : byT Try.prog 35 = some 16 := by kernel_rfl
theorem ag35 : aggT Try.prog 35 = some true := by kernel_rfl
instance jsz35 : Tsz Try.prog 35 2 := ⟨sz35⟩
instance jby35 : Tby Try.prog 35 16 := ⟨by35⟩
instance jag35 : Tag Try.prog 35 true := ⟨ag35⟩
theorem ze35 : zeroA Try.prog 35 = some (.agg [(.i .i64 0), (.i .i64 0)]) := by kernel_rfl
instance jze35 : Tze Try.prog 35 (.agg [(.i .i64 0), (.i .i64 0)]) := ⟨ze35⟩
theorem fl35_0 : fldA Try.prog 35 0 = some (0, 1, false) := by kernel_rfl
instance jfl35_0 : Tfl Try.prog 35 0 0 1 false := ⟨fl35_0⟩
theorem fl35_1 : fldA Try.prog 35 1 = some (1, 1, false) := by kernel_rfl
instance jfl35_1 : Tfl Try.prog 35 1 1 1 false := ⟨fl35_1⟩
theorem pa35 : plA Try.prog 35 = some [(0, 1), (1, 1)] := by kernel_rfl
instance jpl35 : Tpl Try.prog 35 [(0, 1), (1, 1)] := ⟨pa35⟩
theorem sz66 : szT Try.prog 66 = some 1 := by kernel_rfl
theorem by66 : byT Try.prog 66 = some 8 := by kernel_rfl
theorem ag66 : aggT Try.prog 66 = some false := by kernel_rfl
instance jsz66 : Tsz Try.prog 66 1 := ⟨sz66⟩
instance jby66 : Tby Try.prog 66 8 := ⟨by66⟩
instance jag66 : Tag Try.prog 66 false := ⟨ag66⟩
theorem ze66 : zeroA Try.prog 66 = some .np := by kernel_rfl
instance jze66 : Tze Try.prog 66 (.np) := ⟨ze66⟩
theorem sz67 : szT Try.prog 67 = some 1 := by kernel_rfl
theorem by67 : byT Try.prog 67 = some 8 := by kernel_rfl
theorem ag67 : aggT Try.prog 67 = some false := by kernel_rfl
instance jsz67 : Tsz Try.prog 67 1 := ⟨sz67⟩
instance jby67 : Tby Try.prog 67 8 := ⟨by67⟩
instance jag67 : Tag Try.prog 67 false := ⟨ag67⟩
instance jik67 : Tik Try.prog 67 .u64 := ⟨Try.underlying67⟩
theorem ze67 : zeroA Try.prog 67 = some (.i .u64 0) := by kernel_rfl
instance jze67 : Tze Try.prog 67 (.i .u64 0) := ⟨ze67⟩
theorem sz69 : szT Try.prog 69 = some 3 := by kernel_rfl
theorem by69 : byT Try.prog 69 = some 40 := by kernel_rfl
theorem ag69 : aggT Try.prog 69 = some true := by kernel_rfl
instance jsz69 : Tsz Try.prog 69 3 := ⟨sz69⟩
instance jby69 : Tby Try.prog 69 40 := ⟨by69⟩
instance jag69 : Tag Try.prog 69 true := ⟨ag69⟩
theorem ze69 : zeroA Try.prog 69 = some (.agg [.ns, (.i .i64 0), (.i .u64 0)]) := by kernel_rfl
instance jze69 : Tze Try.prog 69 (.agg [.ns, (.i .i64 0), (.i .u64 0)]) := ⟨ze69⟩
theorem fl69_0 : fldA Try.prog 69 0 = some (0, 1, false) := by kernel_rfl
instance jfl69_0 : Tfl Try.prog 69 0 0 1 false := ⟨fl69_0⟩
theorem fl69_1 : fldA Try.prog 69 1 = some (1, 1, false) := by kernel_rfl
instance jfl69_1 : Tfl Try.prog 69 1 1 1 false := ⟨fl69_1⟩
theorem fl69_2 : fldA Try.prog 69 2 = some (2, 1, false) := by kernel_rfl
instance jfl69_2 : Tfl Try.prog 69 2 2 1 false := ⟨fl69_2⟩
theorem pa69 : plA Try.prog 69 = some [(0, 1), (1, 1), (2, 1)] := by kernel_rfl
instance jpl69 : Tpl Try.prog 69 [(0, 1), (1, 1), (2, 1)] := ⟨pa69⟩
theorem sz77 : szT Try.prog 77 = some 1 := by kernel_rfl
theorem by77 : byT Try.prog 77 = some 24 := by kernel_rfl
theorem ag77 : aggT Try.prog 77 = some false := by kernel_rfl
instance jsz77 : Tsz Try.prog 77 1 := ⟨sz77⟩
instance jby77 : Tby Try.prog 77 24 := ⟨by77⟩
instance jag77 : Tag Try.prog 77 false := ⟨ag77⟩
instance jsl77 : Tsl Try.prog 77 25 := ⟨Try.underlying77⟩
theorem ze77 : zeroA Try.prog 77 = some .ns := by kernel_rfl
instance jze77 : Tze Try.prog 77 (.ns) := ⟨ze77⟩
theorem sz92 : szT Try.prog 92 = some 1 := by kernel_rfl
theorem by92 : byT Try.prog 92 = some 8 := by kernel_rfl
theorem ag92 : aggT Try.prog 92 = some false := by kernel_rfl
instance jsz92 : Tsz Try.prog 92 1 := ⟨sz92⟩
instance jby92 : Tby Try.prog 92 8 := ⟨by92⟩
instance jag92 : Tag Try.prog 92 false := ⟨ag92⟩
theorem ze92 : zeroA Try.prog 92 = some .np := by kernel_rfl
instance jze92 : Tze Try.prog 92 (.np) := ⟨ze92⟩
theorem sz103 : szT Try.prog 103 = some 1 := by kernel_rfl
theorem by103 : byT Try.prog 103 = some 8 := by kernel_rfl
theorem ag103 : aggT Try.prog 103 = some false := by kernel_rfl
instance jsz103 : Tsz Try.prog 103 1 := ⟨sz103⟩
instance jby103 : Tby Try.prog 103 8 := ⟨by103⟩
instance jag103 : Tag Try.prog 103 false := ⟨ag103⟩
theorem ze103 : zeroA Try.prog 103 = some .nf := by kernel_rfl
instance jze103 : Tze Try.prog 103 (.nf) := ⟨ze103⟩
theorem sz118 : szT Try.prog 118 = some 1 := by kernel_rfl
theorem by118 : byT Try.prog 118 = some 8 := by kernel_rfl
theorem ag118 : aggT Try.prog 118 = some false := by kernel_rfl
instance jsz118 : Tsz Try.prog 118 1 := ⟨sz118⟩
instance jby118 : Tby Try.prog 118 8 := ⟨by118⟩
instance jag118 : Tag Try.prog 118 false := ⟨ag118⟩
theorem ze118 : zeroA Try.prog 118 = some .nf := by kernel_rfl
instance jze118 : Tze Try.prog 118 (.nf) := ⟨ze118⟩

/-- laws.big -/
def c15 : IC :=
  (.seq
  (.reg [
    ⟨some 4, .assign (.const (.bool false)), none⟩])
  (.seq
  (.reg [
    ⟨some 5, .move (.tmp 0), none⟩,
    ⟨some 6, .call { callee := .builtin .len, args := #[.tmp 5], argTypes := #[22] }, none⟩,
    ⟨some 7, .binOp .gtr 3 (.tmp 6) (.const (.int .i64 1048576)) 3, none⟩,
    ⟨some 8, .move (.tmp 7), none⟩,
    ⟨some 9, .move (.tmp 1), some (8, false)⟩,
    ⟨some 10, .call { callee := .builtin .len, args := #[.tmp 9], argTypes := #[22] }, some (8, false)⟩,
    ⟨some 11, .move (.tmp 0), some (8, false)⟩,
    ⟨some 12, .call { callee := .builtin .len, args := #[.tmp 11], argTypes := #[22] }, some (8, false)⟩,
    ⟨some 13, .binOp .sub 3 (.const (.int .i64 1048576)) (.tmp 12) 3, some (8, false)⟩,
    ⟨some 14, .binOp .gtr 3 (.tmp 10) (.tmp 13) 3, some (8, false)⟩,
    ⟨some 15, .pick (.tmp 8) (.const (.bool true)) (.tmp 14), none⟩,
    ⟨some 4, .assign (.tmp 15), none⟩])
  .ret))
theorem hd15 : Try.f15.body.map dec = some c15 := by kernel_rfl
theorem e15 {R : AV → AH → Prop} {h : AH} (x0 x1 : AV) (H : h.wf → AI Try.prog c15 (RetQ Try.prog [.tmp 4] R) [x0, x1, un, un, un, un, un, un, un, un, un, un, un, un, un, un] h) : AC Try.prog 15 [x0, x1] h R :=
  AC_of' (rs := [.tmp 4]) Try.func15 (by kernel_rfl) hd15 Try.ntmps15 rfl H

noncomputable def rg109_0 : Array Oper := rawAt Try.f109 0
noncomputable def rg109_1 : Array Oper := rawAt Try.f109 1
noncomputable def rg109_2 : Array Oper := rawAt Try.f109 2
/-- (*spec.l1Cur).next -/
noncomputable def c109 : IC :=
  (.seq
  (.reg [
    ⟨some 2, .assign (.const (.int .i64 0)), none⟩])
  (.seq
  (.reg [
    ⟨some 3, .assign (.const (.int .i64 0)), none⟩])
  (.seq
  (.seq
  (.raw (.region 2 rg109_0 true))
  (.cond (.tmp 13)
    (.raw (.region 3 rg109_1 true))
    .skip))
  (.seq
  (.reg [
    ⟨some 25, .move (.tmp 0), none⟩,
    ⟨some 26, .nilCheck (.tmp 25), none⟩,
    ⟨some 27, .fieldAddr 69 (.tmp 26) 1, none⟩,
    ⟨some 28, .load 3 (.tmp 27), none⟩,
    ⟨some 29, .binOp .add 3 (.tmp 28) (.const (.int .i64 1)) 3, none⟩,
    ⟨some 30, .nilCheck (.tmp 25), none⟩,
    ⟨some 31, .fieldAddr 69 (.tmp 30) 1, none⟩,
    ⟨none, .store 3 (.tmp 31) (.tmp 29), none⟩])
  (.seq
  (.reg [
    ⟨some 32, .move (.tmp 0), none⟩,
    ⟨some 33, .move (.tmp 0), none⟩,
    ⟨some 34, .nilCheck (.tmp 33), none⟩,
    ⟨some 35, .fieldAddr 69 (.tmp 34) 2, none⟩,
    ⟨some 36, .load 67 (.tmp 35), none⟩,
    ⟨some 37, .binOp .mul 67 (.tmp 36) (.const (.int .u64 6364136223846793005)) 67, none⟩,
    ⟨some 38, .move (.tmp 3), none⟩,
    ⟨some 39, .convert 3 67 (.tmp 38), none⟩,
    ⟨some 40, .binOp .add 67 (.tmp 37) (.tmp 39) 67, none⟩,
    ⟨some 41, .binOp .add 67 (.tmp 40) (.const (.int .u64 1442695040888963407)) 67, none⟩,
    ⟨some 42, .nilCheck (.tmp 32), none⟩,
    ⟨some 43, .fieldAddr 69 (.tmp 42) 2, none⟩,
    ⟨none, .store 67 (.tmp 43) (.tmp 41), none⟩])
  (.seq
  (.seq
  (.raw (.region 6 rg109_2 true))
  (.cond (.tmp 53)
    (.seq
    (.reg [
      ⟨some 54, .move (.tmp 3), none⟩,
      ⟨some 2, .assign (.tmp 54), none⟩])
    .ret)
    .skip))
  (.seq
  (.reg [
    ⟨some 55, .move (.tmp 0), none⟩,
    ⟨some 56, .nilCheck (.tmp 55), none⟩,
    ⟨some 57, .fieldAddr 69 (.tmp 56) 2, none⟩,
    ⟨some 58, .load 67 (.tmp 57), none⟩,
    ⟨some 59, .binOp .shr 67 (.tmp 58) (.const (.int .u64 40)) 131, none⟩,
    ⟨some 60, .binOp .and 67 (.tmp 59) (.const (.int .u64 255)) 67, none⟩,
    ⟨some 61, .convert 67 3 (.tmp 60), none⟩,
    ⟨some 2, .assign (.tmp 61), none⟩])
  .ret)))))))
theorem hd109 : Try.f109.body.map dec = some c109 := by kernel_rfl
theorem e109 {R : AV → AH → Prop} {h : AH} (x0 : AV) (H : h.wf → AI Try.prog c109 (RetQ Try.prog [.tmp 2] R) [x0, un, un, un, un, un, un, un, un, un, un, un, un, un, un, un, un, un, un, un, un, un, un, un, un, un, un, un, un, un, un, un, un, un, un, un, un, un, un, un, un, un, un, un, un, un, un, un, un, un, un, un, un, un, un, un, un, un, un, un, un, un] h) : AC Try.prog 109 [x0] h R :=
  AC_of' (rs := [.tmp 2]) Try.func109 (by kernel_rfl) hd109 Try.ntmps109 rfl H
theorem dz109_0 {h0 : AH} {L : List It} {Q : Exit → List AV → List It → Prop} {a : List AV} {id : Nat} (H : LX Try.prog ⟨[], []⟩ h0 L L (.c (⟨some 4, .move (.tmp 0), none⟩, .p) <| .c (⟨some 5, .nilCheck (.tmp 4), none⟩, .p) <| .c (⟨some 6, .fieldAddr 69 (.tmp 5) 1, none⟩, .p) <| .c (⟨some 7, .load 3 (.tmp 6), none⟩, .l) <| .c (⟨some 8, .move (.tmp 0), none⟩, .p) <| .c (⟨some 9, .nilCheck (.tmp 8), none⟩, .p) <| .c (⟨some 10, .fieldAddr 69 (.tmp 9) 0, none⟩, .p) <| .c (⟨some 11, .load 22 (.tmp 10), none⟩, .l) <| .c (⟨some 12, .call { callee := .builtin .len, args := #[.tmp 11], argTypes := #[22] }, none⟩, .p) <| .c (⟨some 13, .binOp .lss 3 (.tmp 7) (.tmp 12) 3, none⟩, .p) <| .n) Q a) : LI Try.prog h0 L (.raw (.region id rg109_0 true)) Q a :=
  LI_draw (.c (0, .p) <| .c (1, .p) <| .c (2, .p) <| .c (3, .l) <| .c (4, .p) <| .c (5, .p) <| .c (6, .p) <| .c (7, .l) <| .c (8, .p) <| .c (9, .p) <| .n) [] (by kernel_rfl) (by kernel_rfl) (by kernel_rfl) H
theorem dr109_0 (m : Nat) {Q : Exit → List AV → AH → Prop} {a : List AV} {h : AH} {id : Nat} (H : AX Try.prog m h [(⟨some 4, .move (.tmp 0), none⟩, true),
  (⟨some 5, .nilCheck (.tmp 4), none⟩, true),
  (⟨some 6, .fieldAddr 69 (.tmp 5) 1, none⟩, true),
  (⟨some 7, .load 3 (.tmp 6), none⟩, true),
  (⟨some 8, .move (.tmp 0), none⟩, true),
  (⟨some 9, .nilCheck (.tmp 8), none⟩, true),
  (⟨some 10, .fieldAddr 69 (.tmp 9) 0, none⟩, true),
  (⟨some 11, .load 22 (.tmp 10), none⟩, true),
  (⟨some 12, .call { callee := .builtin .len, args := #[.tmp 11], argTypes := #[22] }, none⟩, true),
  (⟨some 13, .binOp .lss 3 (.tmp 7) (.tmp 12) 3, none⟩, true)] (fun a' h' => Q .normal a' h') a h) : AI Try.prog (.raw (.region id rg109_0 true)) Q a h :=
  AI_draw [(0, true), (1, true), (2, true), (3, true), (4, true), (5, true), (6, true), (7, true), (8, true), (9, true)] m (by kernel_rfl) (by kernel_rfl) (by kernel_rfl) H
theorem dz109_1 {h0 : AH} {L : List It} {Q : Exit → List AV → List It → Prop} {a : List AV} {id : Nat} (H : LX Try.prog ⟨[], []⟩ h0 L L (.c (⟨some 14, .move (.tmp 0), none⟩, .p) <| .c (⟨some 15, .nilCheck (.tmp 14), none⟩, .p) <| .c (⟨some 16, .fieldAddr 69 (.tmp 15) 0, none⟩, .p) <| .c (⟨some 17, .load 22 (.tmp 16), none⟩, .l) <| .c (⟨some 18, .move (.tmp 0), none⟩, .p) <| .c (⟨some 19, .nilCheck (.tmp 18), none⟩, .p) <| .c (⟨some 20, .fieldAddr 69 (.tmp 19) 1, none⟩, .p) <| .c (⟨some 21, .load 3 (.tmp 20), none⟩, .l) <| .c (⟨some 22, .indexAddr 22 (.tmp 17) (.tmp 21), none⟩, .p) <| .c (⟨some 23, .load 5 (.tmp 22), none⟩, .l) <| .c (⟨some 24, .convert 5 3 (.tmp 23), none⟩, .p) <| .c (⟨some 3, .assign (.tmp 24), none⟩, .p) <| .n) Q a) : LI Try.prog h0 L (.raw (.region id rg109_1 true)) Q a :=
  LI_draw (.c (0, .p) <| .c (1, .p) <| .c (2, .p) <| .c (3, .l) <| .c (4, .p) <| .c (5, .p) <| .c (6, .p) <| .c (7, .l) <| .c (8, .p) <| .c (9, .l) <| .c (10, .p) <| .c (11, .p) <| .n) [] (by kernel_rfl) (by kernel_rfl) (by kernel_rfl) H
theorem dr109_1 (m : Nat) {Q : Exit → List AV → AH → Prop} {a : List AV} {h : AH} {id : Nat} (H : AX Try.prog m h [(⟨some 14, .move (.tmp 0), none⟩, true),
  (⟨some 15, .nilCheck (.tmp 14), none⟩, true),
  (⟨some 16, .fieldAddr 69 (.tmp 15) 0, none⟩, true),
  (⟨some 17, .load 22 (.tmp 16), none⟩, true),
  (⟨some 18, .move (.tmp 0), none⟩, true),
  (⟨some 19, .nilCheck (.tmp 18), none⟩, true),
  (⟨some 20, .fieldAddr 69 (.tmp 19) 1, none⟩, true),
  (⟨some 21, .load 3 (.tmp 20), none⟩, true),
  (⟨some 22, .indexAddr 22 (.tmp 17) (.tmp 21), none⟩, true),
  (⟨some 23, .load 5 (.tmp 22), none⟩, true),
  (⟨some 24, .convert 5 3 (.tmp 23), none⟩, true),
  (⟨some 3, .assign (.tmp 24), none⟩, true)] (fun a' h' => Q .normal a' h') a h) : AI Try.prog (.raw (.region id rg109_1 true)) Q a h :=
  AI_draw [(0, true), (1, true), (2, true), (3, true), (4, true), (5, true), (6, true), (7, true), (8, true), (9, true), (10, true), (11, true)] m (by kernel_rfl) (by kernel_rfl) (by kernel_rfl) H
theorem dz109_2 {h0 : AH} {L : List It} {Q : Exit → List AV → List It → Prop} {a : List AV} {id : Nat} (H : LX Try.prog ⟨[], []⟩ h0 L L (.c (⟨some 44, .move (.tmp 0), none⟩, .p) <| .c (⟨some 45, .nilCheck (.tmp 44), none⟩, .p) <| .c (⟨some 46, .fieldAddr 69 (.tmp 45) 1, none⟩, .p) <| .c (⟨some 47, .load 3 (.tmp 46), none⟩, .l) <| .c (⟨some 48, .move (.tmp 0), none⟩, .p) <| .c (⟨some 49, .nilCheck (.tmp 48), none⟩, .p) <| .c (⟨some 50, .fieldAddr 69 (.tmp 49) 0, none⟩, .p) <| .c (⟨some 51, .load 22 (.tmp 50), none⟩, .l) <| .c (⟨some 52, .call { callee := .builtin .len, args := #[.tmp 51], argTypes := #[22] }, none⟩, .p) <| .c (⟨some 53, .binOp .leq 3 (.tmp 47) (.tmp 52) 3, none⟩, .p) <| .n) Q a) : LI Try.prog h0 L (.raw (.region id rg109_2 true)) Q a :=
  LI_draw (.c (0, .p) <| .c (1, .p) <| .c (2, .p) <| .c (3, .l) <| .c (4, .p) <| .c (5, .p) <| .c (6, .p) <| .c (7, .l) <| .c (8, .p) <| .c (9, .p) <| .n) [] (by kernel_rfl) (by kernel_rfl) (by kernel_rfl) H
theorem dr109_2 (m : Nat) {Q : Exit → List AV → AH → Prop} {a : List AV} {h : AH} {id : Nat} (H : AX Try.prog m h [(⟨some 44, .move (.tmp 0), none⟩, true),
  (⟨some 45, .nilCheck (.tmp 44), none⟩, true),
  (⟨some 46, .fieldAddr 69 (.tmp 45) 1, none⟩, true),
  (⟨some 47, .load 3 (.tmp 46), none⟩, true),
  (⟨some 48, .move (.tmp 0), none⟩, true),
  (⟨some 49, .nilCheck (.tmp 48), none⟩, true),
  (⟨some 50, .fieldAddr 69 (.tmp 49) 0, none⟩, true),
  (⟨some 51, .load 22 (.tmp 50), none⟩, true),
  (⟨some 52, .call { callee := .builtin .len, args := #[.tmp 51], argTypes := #[22] }, none⟩, true),
  (⟨some 53, .binOp .leq 3 (.tmp 47) (.tmp 52) 3, none⟩, true)] (fun a' h' => Q .normal a' h') a h) : AI Try.prog (.raw (.region id rg109_2 true)) Q a h :=
  AI_draw [(0, true), (1, true), (2, true), (3, true), (4, true), (5, true), (6, true), (7, true), (8, true), (9, true)] m (by kernel_rfl) (by kernel_rfl) (by kernel_rfl) H

/-- (*spec.l1Cur).pick -/
def c55 : IC :=
  (.seq
  (.reg [
    ⟨some 4, .assign (.const (.int .i64 0)), none⟩])
  (.seq
  (.seq
  (.reg [
    ⟨some 6, .move (.tmp 1), none⟩,
    ⟨some 7, .binOp .leq 3 (.tmp 6) (.const (.int .i64 1)) 3, none⟩])
  (.cond (.tmp 7)
    (.seq
    (.reg [
      ⟨some 4, .assign (.const (.int .i64 0)), none⟩])
    .ret)
    .skip))
  (.seq
  (.reg [
    ⟨some 8, .move (.tmp 0), none⟩,
    ⟨some 9, .call { callee := .value (.func 109), args := #[.tmp 8], argTypes := #[66] }, none⟩,
    ⟨some 5, .assign (.tmp 9), none⟩])
  (.seq
  (.seq
  (.reg [
    ⟨some 10, .move (.tmp 1), none⟩,
    ⟨some 11, .binOp .gtr 3 (.tmp 10) (.const (.int .i64 200)) 3, none⟩])
  (.cond (.tmp 11)
    (.reg [
      ⟨some 12, .move (.tmp 5), none⟩,
      ⟨some 13, .binOp .mul 3 (.tmp 12) (.const (.int .i64 256)) 3, none⟩,
      ⟨some 14, .move (.tmp 0), none⟩,
      ⟨some 15, .call { callee := .value (.func 109), args := #[.tmp 14], argTypes := #[66] }, none⟩,
      ⟨some 16, .binOp .add 3 (.tmp 13) (.tmp 15) 3, none⟩,
      ⟨some 5, .assign (.tmp 16), none⟩])
    .skip))
  (.seq
  (.reg [
    ⟨some 17, .move (.tmp 5), none⟩,
    ⟨some 18, .move (.tmp 1), none⟩,
    ⟨some 19, .binOp .rem 3 (.tmp 17) (.tmp 18) 3, none⟩,
    ⟨some 4, .assign (.tmp 19), none⟩])
  .ret)))))
theorem hd55 : Try.f55.body.map dec = some c55 := by kernel_rfl
theorem e55 {R : AV → AH → Prop} {h : AH} (x0 x1 : AV) (H : h.wf → AI Try.prog c55 (RetQ Try.prog [.tmp 4] R) [x0, x1, un, un, un, un, un, un, un, un, un, un, un, un, un, un, un, un, un, un] h) : AC Try.prog 55 [x0, x1] h R :=
  AC_of' (rs := [.tmp 4]) Try.func55 (by kernel_rfl) hd55 Try.ntmps55 rfl H

/-- (*spec.l1Cur).one -/
def c132 : IC :=
  (.seq
  (.reg [
    ⟨some 4, .assign (.const (.bool false)), none⟩])
  (.seq
  (.reg [
    ⟨some 5, .move (.tmp 0), none⟩,
    ⟨some 6, .move (.tmp 1), none⟩,
    ⟨some 7, .call { callee := .value (.func 55), args := #[.tmp 5, .tmp 6], argTypes := #[66, 3] }, none⟩,
    ⟨some 8, .binOp .eql 3 (.tmp 7) (.const (.int .i64 0)) 3, none⟩,
    ⟨some 4, .assign (.tmp 8), none⟩])
  .ret))
theorem hd132 : Try.f132.body.map dec = some c132 := by kernel_rfl
theorem e132 {R : AV → AH → Prop} {h : AH} (x0 x1 : AV) (H : h.wf → AI Try.prog c132 (RetQ Try.prog [.tmp 4] R) [x0, x1, un, un, un, un, un, un, un] h) : AC Try.prog 132 [x0, x1] h R :=
  AC_of' (rs := [.tmp 4]) Try.func132 (by kernel_rfl) hd132 Try.ntmps132 rfl H

/-- spec.l1Most -/
def c54 : IC :=
  (.seq
  (.reg [
    ⟨some 4, .assign (.const (.int .i64 0)), none⟩])
  (.seq
  (.seq
  (.reg [
    ⟨some 5, .move (.tmp 0), none⟩,
    ⟨some 6, .move (.tmp 1), none⟩,
    ⟨some 7, .binOp .gtr 3 (.tmp 5) (.tmp 6) 3, none⟩])
  (.cond (.tmp 7)
    (.seq
    (.reg [
      ⟨some 8, .move (.tmp 0), none⟩,
      ⟨some 4, .assign (.tmp 8), none⟩])
    .ret)
    .skip))
  (.seq
  (.reg [
    ⟨some 9, .move (.tmp 1), none⟩,
    ⟨some 4, .assign (.tmp 9), none⟩])
  .ret)))
theorem hd54 : Try.f54.body.map dec = some c54 := by kernel_rfl
theorem e54 {R : AV → AH → Prop} {h : AH} (x0 x1 : AV) (H : h.wf → AI Try.prog c54 (RetQ Try.prog [.tmp 4] R) [x0, x1, un, un, un, un, un, un, un, un] h) : AC Try.prog 54 [x0, x1] h R :=
  AC_of' (rs := [.tmp 4]) Try.func54 (by kernel_rfl) hd54 Try.ntmps54 rfl H

/-- spec.l1Least -/
def c134 : IC :=
  (.seq
  (.reg [
    ⟨some 4, .assign (.const (.int .i64 0)), none⟩])
  (.seq
  (.seq
  (.reg [
    ⟨some 5, .move (.tmp 0), none⟩,
    ⟨some 6, .move (.tmp 1), none⟩,
    ⟨some 7, .binOp .lss 3 (.tmp 5) (.tmp 6) 3, none⟩])
  (.cond (.tmp 7)
    (.seq
    (.reg [
      ⟨some 8, .move (.tmp 0), none⟩,
      ⟨some 4, .assign (.tmp 8), none⟩])
    .ret)
    .skip))
  (.seq
  (.reg [
    ⟨some 9, .move (.tmp 1), none⟩,
    ⟨some 4, .assign (.tmp 9), none⟩])
  .ret)))
theorem hd134 : Try.f134.body.map dec = some c134 := by kernel_rfl
theorem e134 {R : AV → AH → Prop} {h : AH} (x0 x1 : AV) (H : h.wf → AI Try.prog c134 (RetQ Try.prog [.tmp 4] R) [x0, x1, un, un, un, un, un, un, un, un] h) : AC Try.prog 134 [x0, x1] h R :=
  AC_of' (rs := [.tmp 4]) Try.func134 (by kernel_rfl) hd134 Try.ntmps134 rfl H

/-- spec.plStep -/
def c133 : IC :=
  (.seq
  (.reg [
    ⟨some 4, .alloc 35, none⟩])
  (.seq
  (.reg [
    ⟨some 5, .move (.tmp 0), none⟩,
    ⟨some 6, .move (.tmp 1), none⟩,
    ⟨some 7, .call { callee := .value (.func 134), args := #[.tmp 5, .tmp 6], argTypes := #[3, 3] }, none⟩,
    ⟨some 8, .move (.tmp 0), none⟩,
    ⟨some 9, .move (.tmp 1), none⟩,
    ⟨some 10, .call { callee := .value (.func 54), args := #[.tmp 8, .tmp 9], argTypes := #[3, 3] }, none⟩,
    ⟨some 11, .build 35 #[(0, .tmp 7), (1, .tmp 10)], none⟩,
    ⟨none, .store 35 (.tmp 4) (.tmp 11), none⟩])
  .ret))
theorem hd133 : Try.f133.body.map dec = some c133 := by kernel_rfl
theorem e133 {R : AV → AH → Prop} {h : AH} (x0 x1 : AV) (H : h.wf → AI Try.prog c133 (RetQ Try.prog [.cell 4 35] R) [x0, x1, un, un, un, un, un, un, un, un, un, un] h) : AC Try.prog 133 [x0, x1] h R :=
  AC_of' (rs := [.cell 4 35]) Try.func133 (by kernel_rfl) hd133 Try.ntmps133 rfl H

noncomputable def rg107_0 : Array Oper := rawAt Try.f107 0
noncomputable def rg107_1 : Array Oper := rawAt Try.f107 1
/-- (*spec.l1Cur).plan -/
noncomputable def c107 : IC :=
  (.seq
  (.reg [
    ⟨some 6, .alloc 27, none⟩])
  (.seq
  (.reg [
    ⟨some 13, .move (.tmp 0), none⟩,
    ⟨some 14, .move (.tmp 1), none⟩,
    ⟨some 15, .call { callee := .value (.func 55), args := #[.tmp 13, .tmp 14], argTypes := #[66, 3] }, none⟩,
    ⟨some 16, .binOp .add 3 (.const (.int .i64 1)) (.tmp 15) 3, none⟩,
    ⟨some 17, .build 27 #[(0, .tmp 16)], none⟩,
    ⟨some 7, .alloc 27, none⟩,
    ⟨none, .store 27 (.tmp 7) (.tmp 17), none⟩])
  (.seq
  (.seq
  (.reg [
    ⟨some 18, .move (.tmp 0), none⟩,
    ⟨some 19, .move (.tmp 2), none⟩,
    ⟨some 20, .binOp .add 3 (.tmp 19) (.const (.int .i64 1)) 3, none⟩,
    ⟨some 21, .call { callee := .value (.func 55), args := #[.tmp 18, .tmp 20], argTypes := #[66, 3] }, none⟩,
    ⟨some 8, .assign (.tmp 21), none⟩])
  (.block 0
  (.loop
    (.seq
    (.seq
    (.reg [
      ⟨some 22, .move (.tmp 8), none⟩,
      ⟨some 23, .binOp .gtr 3 (.tmp 22) (.const (.int .i64 0)) 3, none⟩])
    (.cond (.tmp 23)
      .skip
      (.exit 0)))
    (.seq
    (.block 1
    (.seq
    (.reg [
      ⟨some 26, .fieldAddr 27 (.tmp 7) 0, none⟩,
      ⟨some 27, .load 3 (.tmp 26), none⟩,
      ⟨some 28, .fieldAddr 27 (.tmp 7) 1, none⟩,
      ⟨some 29, .load 24 (.tmp 28), none⟩,
      ⟨some 30, .call { callee := .builtin .len, args := #[.tmp 29], argTypes := #[24] }, none⟩,
      ⟨some 31, .binOp .add 3 (.tmp 27) (.tmp 30) 3, none⟩,
      ⟨some 9, .assign (.tmp 31), none⟩])
    (.seq
    (.reg [
      ⟨some 32, .move (.tmp 0), none⟩,
      ⟨some 33, .move (.tmp 9), none⟩,
      ⟨some 34, .call { callee := .value (.func 55), args := #[.tmp 32, .tmp 33], argTypes := #[66, 3] }, none⟩,
      ⟨some 10, .assign (.tmp 34), none⟩])
    (.seq
    (.seq
    (.reg [
      ⟨some 35, .move (.tmp 0), none⟩,
      ⟨some 36, .call { callee := .value (.func 132), args := #[.tmp 35, .const (.int .i64 2)], argTypes := #[66, 3] }, none⟩])
    (.cond (.tmp 36)
      (.reg [
        ⟨some 37, .move (.tmp 9), none⟩,
        ⟨some 38, .binOp .sub 3 (.tmp 37) (.const (.int .i64 1)) 3, none⟩,
        ⟨some 10, .assign (.tmp 38), none⟩])
      .skip))
    (.raw (.region 9 rg107_0 true))))))
    (.reg [
      ⟨some 24, .move (.tmp 8), none⟩,
      ⟨some 25, .binOp .sub 3 (.tmp 24) (.const (.int .i64 1)) 3, none⟩,
      ⟨some 8, .assign (.tmp 25), none⟩]))))))
  (.seq
  (.reg [
    ⟨some 49, .fieldAddr 27 (.tmp 7) 0, none⟩,
    ⟨some 50, .load 3 (.tmp 49), none⟩,
    ⟨some 51, .fieldAddr 27 (.tmp 7) 1, none⟩,
    ⟨some 52, .load 24 (.tmp 51), none⟩,
    ⟨some 53, .call { callee := .builtin .len, args := #[.tmp 52], argTypes := #[24] }, none⟩,
    ⟨some 54, .binOp .add 3 (.tmp 50) (.tmp 53) 3, none⟩,
    ⟨some 11, .assign (.tmp 54), none⟩])
  (.seq
  (.seq
  (.reg [
    ⟨some 55, .move (.tmp 0), none⟩,
    ⟨some 56, .call { callee := .value (.func 55), args := #[.tmp 55, .const (.int .i64 3)], argTypes := #[66, 3] }, none⟩,
    ⟨some 57, .binOp .add 3 (.const (.int .i64 1)) (.tmp 56) 3, none⟩,
    ⟨some 12, .assign (.tmp 57), none⟩])
  (.block 2
  (.loop
    (.seq
    (.seq
    (.reg [
      ⟨some 58, .move (.tmp 12), none⟩,
      ⟨some 59, .binOp .gtr 3 (.tmp 58) (.const (.int .i64 0)) 3, none⟩])
    (.cond (.tmp 59)
      .skip
      (.exit 2)))
    (.seq
    (.block 3
    (.raw (.region 14 rg107_1 true)))
    (.reg [
      ⟨some 60, .move (.tmp 12), none⟩,
      ⟨some 61, .binOp .sub 3 (.tmp 60) (.const (.int .i64 1)) 3, none⟩,
      ⟨some 12, .assign (.tmp 61), none⟩]))))))
  (.seq
  (.seq
  (.reg [
    ⟨some 74, .move (.tmp 0), none⟩,
    ⟨some 75, .call { callee := .value (.func 132), args := #[.tmp 74, .const (.int .i64 12)], argTypes := #[66, 3] }, none⟩])
  (.cond (.tmp 75)
    (.reg [
      ⟨some 76, .fieldAddr 27 (.tmp 7) 2, none⟩,
      ⟨none, .store 25 (.tmp 76) (.const (.slice none 0 0)), none⟩])
    .skip))
  (.seq
  (.reg [
    ⟨some 77, .load 27 (.tmp 7), none⟩,
    ⟨none, .store 27 (.tmp 6) (.tmp 77), none⟩])
  .ret)))))))
theorem hd107 : Try.f107.body.map dec = some c107 := by kernel_rfl
theorem e107 {R : AV → AH → Prop} {h : AH} (x0 x1 x2 : AV) (H : h.wf → AI Try.prog c107 (RetQ Try.prog [.cell 6 27] R) [x0, x1, x2, un, un, un, un, un, un, un, un, un, un, un, un, un, un, un, un, un, un, un, un, un, un, un, un, un, un, un, un, un, un, un, un, un, un, un, un, un, un, un, un, un, un, un, un, un, un, un, un, un, un, un, un, un, un, un, un, un, un, un, un, un, un, un, un, un, un, un, un, un, un, un, un, un, un, un] h) : AC Try.prog 107 [x0, x1, x2] h R :=
  AC_of' (rs := [.cell 6 27]) Try.func107 (by kernel_rfl) hd107 Try.ntmps107 rfl H
theorem dz107_0 {h0 : AH} {L : List It} {Q : Exit → List AV → List It → Prop} {a : List AV} {id : Nat} (H : LX Try.prog ⟨[8, 10], []⟩ h0 L L (.c (⟨some 39, .fieldAddr 27 (.tmp 7) 1, none⟩, .p) <| .c (⟨some 40, .load 24 (.tmp 39), none⟩, .l) <| .c (⟨some 41, .move (.tmp 10), none⟩, .p) <| .c (⟨some 42, .move (.tmp 0), none⟩, .p) <| .c (⟨some 43, .move (.tmp 9), none⟩, .p) <| .c (⟨some 44, .call { callee := .value (.func 55), args := #[.tmp 42, .tmp 43], argTypes := #[66, 3] }, none⟩, .e) <| .c (⟨some 45, .call { callee := .value (.func 133), args := #[.tmp 41, .tmp 44], argTypes := #[3, 3] }, none⟩, .e) <| .c (⟨some 46, .buildSlice 24 1 #[(0, .tmp 45)], none⟩, .e) <| .c (⟨some 47, .call { callee := .builtin .append, args := #[.tmp 40, .tmp 46], argTypes := #[24, 24] }, none⟩, .f) <| .c (⟨some 48, .fieldAddr 27 (.tmp 7) 1, none⟩, .p) <| .c (⟨none, .store 24 (.tmp 48) (.tmp 47), none⟩, .f) <| .n) Q a) : LI Try.prog h0 L (.raw (.region id rg107_0 true)) Q a :=
  LI_draw (.c (0, .p) <| .c (1, .l) <| .c (2, .p) <| .c (3, .p) <| .c (4, .p) <| .c (5, .e) <| .c (6, .e) <| .c (7, .e) <| .c (8, .f) <| .c (9, .p) <| .c (10, .f) <| .n) [8, 10] (by kernel_rfl) (by kernel_rfl) (by kernel_rfl) H
theorem db107_0 {h0 : AH} {L : List It} {Q : Exit → List AV → List It → Prop} {a : List AV} {id : Nat} (K : List (Nat × List AV)) (hK : ∀ x ∈ K, It.pt x.1 x.2 ∈ L) (H : LX Try.prog ⟨[5, 6, 7, 8, 10], K⟩ h0 L L (.c (⟨some 39, .fieldAddr 27 (.tmp 7) 1, none⟩, .p) <| .c (⟨some 41, .move (.tmp 10), none⟩, .p) <| .c (⟨some 42, .move (.tmp 0), none⟩, .p) <| .c (⟨some 43, .move (.tmp 9), none⟩, .p) <| .t (.c (⟨some 40, .load 24 (.tmp 39), none⟩, .e) <| .c (⟨some 44, .call { callee := .value (.func 55), args := #[.tmp 42, .tmp 43], argTypes := #[66, 3] }, none⟩, .f) <| .c (⟨some 45, .call { callee := .value (.func 133), args := #[.tmp 41, .tmp 44], argTypes := #[3, 3] }, none⟩, .f) <| .c (⟨some 46, .buildSlice 24 1 #[(0, .tmp 45)], none⟩, .f) <| .c (⟨some 47, .call { callee := .builtin .append, args := #[.tmp 40, .tmp 46], argTypes := #[24, 24] }, none⟩, .f) <| .c (⟨some 48, .fieldAddr 27 (.tmp 7) 1, none⟩, .p) <| .c (⟨none, .store 24 (.tmp 48) (.tmp 47), none⟩, .f) <| .n) (.c (⟨some 44, .call { callee := .value (.func 55), args := #[.tmp 42, .tmp 43], argTypes := #[66, 3] }, none⟩, .f) <| .t (.c (⟨some 40, .load 24 (.tmp 39), none⟩, .e) <| .c (⟨some 45, .call { callee := .value (.func 133), args := #[.tmp 41, .tmp 44], argTypes := #[3, 3] }, none⟩, .f) <| .c (⟨some 46, .buildSlice 24 1 #[(0, .tmp 45)], none⟩, .f) <| .c (⟨some 47, .call { callee := .builtin .append, args := #[.tmp 40, .tmp 46], argTypes := #[24, 24] }, none⟩, .f) <| .c (⟨some 48, .fieldAddr 27 (.tmp 7) 1, none⟩, .p) <| .c (⟨none, .store 24 (.tmp 48) (.tmp 47), none⟩, .f) <| .n) (.c (⟨some 45, .call { callee := .value (.func 133), args := #[.tmp 41, .tmp 44], argTypes := #[3, 3] }, none⟩, .f) <| .t (.c (⟨some 40, .load 24 (.tmp 39), none⟩, .e) <| .c (⟨some 46, .buildSlice 24 1 #[(0, .tmp 45)], none⟩, .f) <| .c (⟨some 47, .call { callee := .builtin .append, args := #[.tmp 40, .tmp 46], argTypes := #[24, 24] }, none⟩, .f) <| .c (⟨some 48, .fieldAddr 27 (.tmp 7) 1, none⟩, .p) <| .c (⟨none, .store 24 (.tmp 48) (.tmp 47), none⟩, .f) <| .n) (.c (⟨some 46, .buildSlice 24 1 #[(0, .tmp 45)], none⟩, .f) <| .c (⟨some 40, .load 24 (.tmp 39), none⟩, .e) <| .c (⟨some 47, .call { callee := .builtin .append, args := #[.tmp 40, .tmp 46], argTypes := #[24, 24] }, none⟩, .f) <| .c (⟨some 48, .fieldAddr 27 (.tmp 7) 1, none⟩, .p) <| .c (⟨none, .store 24 (.tmp 48) (.tmp 47), none⟩, .f) <| .n)))) Q a) : LI Try.prog h0 L (.raw (.region id rg107_0 true)) Q a :=
  LI_drawK (.c (0, .p) <| .c (2, .p) <| .c (3, .p) <| .c (4, .p) <| .t (.c (1, .e) <| .c (5, .f) <| .c (6, .f) <| .c (7, .f) <| .c (8, .f) <| .c (9, .p) <| .c (10, .f) <| .n) (.c (5, .f) <| .t (.c (1, .e) <| .c (6, .f) <| .c (7, .f) <| .c (8, .f) <| .c (9, .p) <| .c (10, .f) <| .n) (.c (6, .f) <| .t (.c (1, .e) <| .c (7, .f) <| .c (8, .f) <| .c (9, .p) <| .c (10, .f) <| .n) (.c (7, .f) <| .c (1, .e) <| .c (8, .f) <| .c (9, .p) <| .c (10, .f) <| .n)))) [5, 6, 7, 8, 10] K hK (by kernel_rfl) (by kernel_rfl) (by kernel_rfl) H
theorem dr107_0 (m : Nat) {Q : Exit → List AV → AH → Prop} {a : List AV} {h : AH} {id : Nat} (H : AX Try.prog m h [(⟨some 39, .fieldAddr 27 (.tmp 7) 1, none⟩, true),
  (⟨some 40, .load 24 (.tmp 39), none⟩, true),
  (⟨some 41, .move (.tmp 10), none⟩, true),
  (⟨some 42, .move (.tmp 0), none⟩, true),
  (⟨some 43, .move (.tmp 9), none⟩, true),
  (⟨some 44, .call { callee := .value (.func 55), args := #[.tmp 42, .tmp 43], argTypes := #[66, 3] }, none⟩, false),
  (⟨some 45, .call { callee := .value (.func 133), args := #[.tmp 41, .tmp 44], argTypes := #[3, 3] }, none⟩, false),
  (⟨some 46, .buildSlice 24 1 #[(0, .tmp 45)], none⟩, false),
  (⟨some 47, .call { callee := .builtin .append, args := #[.tmp 40, .tmp 46], argTypes := #[24, 24] }, none⟩, false),
  (⟨some 48, .fieldAddr 27 (.tmp 7) 1, none⟩, true),
  (⟨none, .store 24 (.tmp 48) (.tmp 47), none⟩, false)] (fun a' h' => Q .normal a' h') a h) : AI Try.prog (.raw (.region id rg107_0 true)) Q a h :=
  AI_draw [(0, true), (1, true), (2, true), (3, true), (4, true), (5, false), (6, false), (7, false), (8, false), (9, true), (10, false)] m (by kernel_rfl) (by kernel_rfl) (by kernel_rfl) H
theorem dz107_1 {h0 : AH} {L : List It} {Q : Exit → List AV → List It → Prop} {a : List AV} {id : Nat} (H : LX Try.prog ⟨[10, 12], []⟩ h0 L L (.c (⟨some 62, .fieldAddr 27 (.tmp 7) 2, none⟩, .p) <| .c (⟨some 63, .load 25 (.tmp 62), none⟩, .l) <| .c (⟨some 64, .move (.tmp 11), none⟩, .p) <| .c (⟨some 65, .binOp .sub 3 (.tmp 64) (.const (.int .i64 1)) 3, none⟩, .p) <| .c (⟨some 66, .move (.tmp 0), none⟩, .p) <| .c (⟨some 67, .move (.tmp 11), none⟩, .p) <| .c (⟨some 68, .call { callee := .value (.func 134), args := #[.tmp 67, .const (.int .i64 4)], argTypes := #[3, 3] }, none⟩, .e) <| .c (⟨some 69, .call { callee := .value (.func 55), args := #[.tmp 66, .tmp 68], argTypes := #[66, 3] }, none⟩, .e) <| .c (⟨some 70, .binOp .sub 3 (.tmp 65) (.tmp 69) 3, none⟩, .p) <| .c (⟨some 71, .buildSlice 25 1 #[(0, .tmp 70)], none⟩, .e) <| .c (⟨some 72, .call { callee := .builtin .append, args := #[.tmp 63, .tmp 71], argTypes := #[25, 25] }, none⟩, .f) <| .c (⟨some 73, .fieldAddr 27 (.tmp 7) 2, none⟩, .p) <| .c (⟨none, .store 25 (.tmp 73) (.tmp 72), none⟩, .f) <| .n) Q a) : LI Try.prog h0 L (.raw (.region id rg107_1 true)) Q a :=
  LI_draw (.c (0, .p) <| .c (1, .l) <| .c (2, .p) <| .c (3, .p) <| .c (4, .p) <| .c (5, .p) <| .c (6, .e) <| .c (7, .e) <| .c (8, .p) <| .c (9, .e) <| .c (10, .f) <| .c (11, .p) <| .c (12, .f) <| .n) [10, 12] (by kernel_rfl) (by kernel_rfl) (by kernel_rfl) H
theorem db107_1 {h0 : AH} {L : List It} {Q : Exit → List AV → List It → Prop} {a : List AV} {id : Nat} (K : List (Nat × List AV)) (hK : ∀ x ∈ K, It.pt x.1 x.2 ∈ L) (H : LX Try.prog ⟨[6, 7, 9, 10, 12], K⟩ h0 L L (.c (⟨some 62, .fieldAddr 27 (.tmp 7) 2, none⟩, .p) <| .c (⟨some 64, .move (.tmp 11), none⟩, .p) <| .c (⟨some 65, .binOp .sub 3 (.tmp 64) (.const (.int .i64 1)) 3, none⟩, .p) <| .c (⟨some 66, .move (.tmp 0), none⟩, .p) <| .c (⟨some 67, .move (.tmp 11), none⟩, .p) <| .t (.c (⟨some 63, .load 25 (.tmp 62), none⟩, .e) <| .c (⟨some 68, .call { callee := .value (.func 134), args := #[.tmp 67, .const (.int .i64 4)], argTypes := #[3, 3] }, none⟩, .f) <| .c (⟨some 69, .call { callee := .value (.func 55), args := #[.tmp 66, .tmp 68], argTypes := #[66, 3] }, none⟩, .f) <| .c (⟨some 70, .binOp .sub 3 (.tmp 65) (.tmp 69) 3, none⟩, .p) <| .c (⟨some 71, .buildSlice 25 1 #[(0, .tmp 70)], none⟩, .f) <| .c (⟨some 72, .call { callee := .builtin .append, args := #[.tmp 63, .tmp 71], argTypes := #[25, 25] }, none⟩, .f) <| .c (⟨some 73, .fieldAddr 27 (.tmp 7) 2, none⟩, .p) <| .c (⟨none, .store 25 (.tmp 73) (.tmp 72), none⟩, .f) <| .n) (.c (⟨some 68, .call { callee := .value (.func 134), args := #[.tmp 67, .const (.int .i64 4)], argTypes := #[3, 3] }, none⟩, .f) <| .t (.c (⟨some 63, .load 25 (.tmp 62), none⟩, .e) <| .c (⟨some 69, .call { callee := .value (.func 55), args := #[.tmp 66, .tmp 68], argTypes := #[66, 3] }, none⟩, .f) <| .c (⟨some 70, .binOp .sub 3 (.tmp 65) (.tmp 69) 3, none⟩, .p) <| .c (⟨some 71, .buildSlice 25 1 #[(0, .tmp 70)], none⟩, .f) <| .c (⟨some 72, .call { callee := .builtin .append, args := #[.tmp 63, .tmp 71], argTypes := #[25, 25] }, none⟩, .f) <| .c (⟨some 73, .fieldAddr 27 (.tmp 7) 2, none⟩, .p) <| .c (⟨none, .store 25 (.tmp 73) (.tmp 72), none⟩, .f) <| .n) (.c (⟨some 69, .call { callee := .value (.func 55), args := #[.tmp 66, .tmp 68], argTypes := #[66, 3] }, none⟩, .f) <| .c (⟨some 70, .binOp .sub 3 (.tmp 65) (.tmp 69) 3, none⟩, .p) <| .t (.c (⟨some 63, .load 25 (.tmp 62), none⟩, .e) <| .c (⟨some 71, .buildSlice 25 1 #[(0, .tmp 70)], none⟩, .f) <| .c (⟨some 72, .call { callee := .builtin .append, args := #[.tmp 63, .tmp 71], argTypes := #[25, 25] }, none⟩, .f) <| .c (⟨some 73, .fieldAddr 27 (.tmp 7) 2, none⟩, .p) <| .c (⟨none, .store 25 (.tmp 73) (.tmp 72), none⟩, .f) <| .n) (.c (⟨some 71, .buildSlice 25 1 #[(0, .tmp 70)], none⟩, .f) <| .c (⟨some 63, .load 25 (.tmp 62), none⟩, .e) <| .c (⟨some 72, .call { callee := .builtin .append, args := #[.tmp 63, .tmp 71], argTypes := #[25, 25] }, none⟩, .f) <| .c (⟨some 73, .fieldAddr 27 (.tmp 7) 2, none⟩, .p) <| .c (⟨none, .store 25 (.tmp 73) (.tmp 72), none⟩, .f) <| .n)))) Q a) : LI Try.prog h0 L (.raw (.region id rg107_1 true)) Q a :=
  LI_drawK (.c (0, .p) <| .c (2, .p) <| .c (3, .p) <| .c (4, .p) <| .c (5, .p) <| .t (.c (1, .e) <| .c (6, .f) <| .c (7, .f) <| .c (8, .p) <| .c (9, .f) <| .c (10, .f) <| .c (11, .p) <| .c (12, .f) <| .n) (.c (6, .f) <| .t (.c (1, .e) <| .c (7, .f) <| .c (8, .p) <| .c (9, .f) <| .c (10, .f) <| .c (11, .p) <| .c (12, .f) <| .n) (.c (7, .f) <| .c (8, .p) <| .t (.c (1, .e) <| .c (9, .f) <| .c (10, .f) <| .c (11, .p) <| .c (12, .f) <| .n) (.c (9, .f) <| .c (1, .e) <| .c (10, .f) <| .c (11, .p) <| .c (12, .f) <| .n)))) [6, 7, 9, 10, 12] K hK (by kernel_rfl) (by kernel_rfl) (by kernel_rfl) H
theorem dr107_1 (m : Nat) {Q : Exit → List AV → AH → Prop} {a : List AV} {h : AH} {id : Nat} (H : AX Try.prog m h [(⟨some 62, .fieldAddr 27 (.tmp 7) 2, none⟩, true),
  (⟨some 63, .load 25 (.tmp 62), none⟩, true),
  (⟨some 64, .move (.tmp 11), none⟩, true),
  (⟨some 65, .binOp .sub 3 (.tmp 64) (.const (.int .i64 1)) 3, none⟩, true),
  (⟨some 66, .move (.tmp 0), none⟩, true),
  (⟨some 67, .move (.tmp 11), none⟩, true),
  (⟨some 68, .call { callee := .value (.func 134), args := #[.tmp 67, .const (.int .i64 4)], argTypes := #[3, 3] }, none⟩, false),
  (⟨some 69, .call { callee := .value (.func 55), args := #[.tmp 66, .tmp 68], argTypes := #[66, 3] }, none⟩, false),
  (⟨some 70, .binOp .sub 3 (.tmp 65) (.tmp 69) 3, none⟩, true),
  (⟨some 71, .buildSlice 25 1 #[(0, .tmp 70)], none⟩, false),
  (⟨some 72, .call { callee := .builtin .append, args := #[.tmp 63, .tmp 71], argTypes := #[25, 25] }, none⟩, false),
  (⟨some 73, .fieldAddr 27 (.tmp 7) 2, none⟩, true),
  (⟨none, .store 25 (.tmp 73) (.tmp 72), none⟩, false)] (fun a' h' => Q .normal a' h') a h) : AI Try.prog (.raw (.region id rg107_1 true)) Q a h :=
  AI_draw [(0, true), (1, true), (2, true), (3, true), (4, true), (5, true), (6, false), (7, false), (8, true), (9, false), (10, false), (11, true), (12, false)] m (by kernel_rfl) (by kernel_rfl) (by kernel_rfl) H

/-- (*spec.l1Cur).among -/
def c108 : IC :=
  (.seq
  (.reg [
    ⟨some 4, .assign (.const (.int .i64 0)), none⟩])
  (.seq
  (.reg [
    ⟨some 5, .move (.tmp 1), none⟩,
    ⟨some 6, .move (.tmp 0), none⟩,
    ⟨some 7, .move (.tmp 1), none⟩,
    ⟨some 8, .call { callee := .builtin .len, args := #[.tmp 7], argTypes := #[25] }, none⟩,
    ⟨some 9, .call { callee := .value (.func 55), args := #[.tmp 6, .tmp 8], argTypes := #[66, 3] }, none⟩,
    ⟨some 10, .indexAddr 25 (.tmp 5) (.tmp 9), none⟩,
    ⟨some 11, .load 3 (.tmp 10), none⟩,
    ⟨some 4, .assign (.tmp 11), none⟩])
  .ret))
theorem hd108 : Try.f108.body.map dec = some c108 := by kernel_rfl
theorem e108 {R : AV → AH → Prop} {h : AH} (x0 x1 : AV) (H : h.wf → AI Try.prog c108 (RetQ Try.prog [.tmp 4] R) [x0, x1, un, un, un, un, un, un, un, un, un, un] h) : AC Try.prog 108 [x0, x1] h R :=
  AC_of' (rs := [.tmp 4]) Try.func108 (by kernel_rfl) hd108 Try.ntmps108 rfl H

noncomputable def rg53_0 : Array Oper := rawAt Try.f53 0
noncomputable def rg53_1 : Array Oper := rawAt Try.f53 1
noncomputable def rg53_2 : Array Oper := rawAt Try.f53 2
/-- (*spec.l1Cur).anyPlan -/
noncomputable def c53 : IC :=
  (.seq
  (.reg [
    ⟨some 6, .alloc 27, none⟩])
  (.seq
  (.reg [
    ⟨some 10, .move (.tmp 0), none⟩,
    ⟨some 11, .move (.tmp 1), none⟩,
    ⟨some 12, .move (.tmp 2), none⟩,
    ⟨some 13, .call { callee := .value (.func 107), args := #[.tmp 10, .tmp 11, .tmp 12], argTypes := #[66, 3, 3] }, none⟩,
    ⟨some 7, .alloc 27, none⟩,
    ⟨none, .store 27 (.tmp 7) (.tmp 13), none⟩])
  (.seq
  (.seq
  (.reg [
    ⟨some 14, .move (.tmp 0), none⟩,
    ⟨some 15, .call { callee := .value (.func 55), args := #[.tmp 14, .const (.int .i64 16)], argTypes := #[66, 3] }, none⟩])
  (.block 0
  (.seq
  (.reg [
    ⟨some 17, .binOp .eql 3 (.tmp 15) (.const (.int .i64 0)) 3, none⟩,
    ⟨some 16, .assign (.tmp 17), none⟩])
  (.cond (.tmp 16)
    (.reg [
      ⟨some 18, .move (.tmp 0), none⟩,
      ⟨some 19, .buildSlice 25 5 #[(0, .const (.int .i64 (-1))), (1, .const (.int .i64 0)), (2, .const (.int .i64 1)), (3, .const (.int .i64 6)), (4, .const (.int .i64 7))], none⟩,
      ⟨some 20, .call { callee := .value (.func 108), args := #[.tmp 18, .tmp 19], argTypes := #[66, 25] }, none⟩,
      ⟨some 21, .fieldAddr 27 (.tmp 7) 0, none⟩,
      ⟨none, .store 3 (.tmp 21) (.tmp 20), none⟩])
    (.seq
    (.reg [
      ⟨some 23, .binOp .eql 3 (.tmp 15) (.const (.int .i64 1)) 3, none⟩,
      ⟨some 22, .assign (.tmp 23), none⟩])
    (.cond (.tmp 22)
      (.seq
      (.reg [
        ⟨some 24, .fieldAddr 27 (.tmp 7) 1, none⟩,
        ⟨some 25, .load 24 (.tmp 24), none⟩,
        ⟨some 26, .call { callee := .builtin .len, args := #[.tmp 25], argTypes := #[24] }, none⟩,
        ⟨some 27, .binOp .gtr 3 (.tmp 26) (.const (.int .i64 0)) 3, none⟩])
      (.cond (.tmp 27)
        (.raw (.region 7 rg53_0 true))
        .skip))
      (.seq
      (.reg [
        ⟨some 43, .binOp .eql 3 (.tmp 15) (.const (.int .i64 2)) 3, none⟩,
        ⟨some 42, .assign (.tmp 43), none⟩])
      (.cond (.tmp 42)
        (.raw (.region 9 rg53_1 true))
        (.seq
        (.reg [
          ⟨some 53, .binOp .eql 3 (.tmp 15) (.const (.int .i64 3)) 3, none⟩,
          ⟨some 52, .assign (.tmp 53), none⟩])
        (.cond (.tmp 52)
          (.seq
          (.reg [
            ⟨some 54, .build 27 #[(0, .const (.int .i64 1))], none⟩,
            ⟨none, .store 27 (.tmp 7) (.tmp 54), none⟩])
          (.seq
          (.seq
          (.reg [
            ⟨some 55, .move (.tmp 0), none⟩,
            ⟨some 56, .call { callee := .value (.func 55), args := #[.tmp 55, .const (.int .i64 4)], argTypes := #[66, 3] }, none⟩,
            ⟨some 57, .binOp .add 3 (.const (.int .i64 18)) (.tmp 56) 3, none⟩,
            ⟨some 8, .assign (.tmp 57), none⟩])
          (.block 1
          (.loop
            (.seq
            (.seq
            (.reg [
              ⟨some 58, .move (.tmp 8), none⟩,
              ⟨some 59, .binOp .gtr 3 (.tmp 58) (.const (.int .i64 0)) 3, none⟩])
            (.cond (.tmp 59)
              .skip
              (.exit 1)))
            (.seq
            (.block 2
            (.reg [
              ⟨some 62, .fieldAddr 27 (.tmp 7) 1, none⟩,
              ⟨some 63, .load 24 (.tmp 62), none⟩,
              ⟨some 64, .fieldAddr 27 (.tmp 7) 1, none⟩,
              ⟨some 65, .load 24 (.tmp 64), none⟩,
              ⟨some 66, .call { callee := .builtin .len, args := #[.tmp 65], argTypes := #[24] }, none⟩,
              ⟨some 67, .fieldAddr 27 (.tmp 7) 1, none⟩,
              ⟨some 68, .load 24 (.tmp 67), none⟩,
              ⟨some 69, .call { callee := .builtin .len, args := #[.tmp 68], argTypes := #[24] }, none⟩,
              ⟨some 70, .build 35 #[(0, .tmp 66), (1, .tmp 69)], none⟩,
              ⟨some 71, .buildSlice 24 1 #[(0, .tmp 70)], none⟩,
              ⟨some 72, .call { callee := .builtin .append, args := #[.tmp 63, .tmp 71], argTypes := #[24, 24] }, none⟩,
              ⟨some 73, .fieldAddr 27 (.tmp 7) 1, none⟩,
              ⟨none, .store 24 (.tmp 73) (.tmp 72), none⟩]))
            (.reg [
              ⟨some 60, .move (.tmp 8), none⟩,
              ⟨some 61, .binOp .sub 3 (.tmp 60) (.const (.int .i64 1)) 3, none⟩,
              ⟨some 8, .assign (.tmp 61), none⟩]))))))
          (.reg [
            ⟨some 74, .fieldAddr 27 (.tmp 7) 1, none⟩,
            ⟨some 75, .load 24 (.tmp 74), none⟩,
            ⟨some 76, .call { callee := .builtin .len, args := #[.tmp 75], argTypes := #[24] }, none⟩,
            ⟨some 77, .buildSlice 25 1 #[(0, .tmp 76)], none⟩,
            ⟨some 78, .fieldAddr 27 (.tmp 7) 2, none⟩,
            ⟨none, .store 25 (.tmp 78) (.tmp 77), none⟩])))
          (.seq
          (.reg [
            ⟨some 80, .binOp .eql 3 (.tmp 15) (.const (.int .i64 4)) 3, none⟩,
            ⟨some 79, .assign (.tmp 80), none⟩])
          (.cond (.tmp 79)
            (.block 3
            (.loop
              (.seq
              (.seq
              (.raw (.region 18 rg53_2 true))
              (.cond (.tmp 87)
                .skip
                (.exit 3)))
              (.block 4
              (.reg [
                ⟨some 88, .fieldAddr 27 (.tmp 7) 2, none⟩,
                ⟨some 89, .load 25 (.tmp 88), none⟩,
                ⟨some 90, .buildSlice 25 1 #[(0, .const (.int .i64 0))], none⟩,
                ⟨some 91, .call { callee := .builtin .append, args := #[.tmp 89, .tmp 90], argTypes := #[25, 25] }, none⟩,
                ⟨some 92, .fieldAddr 27 (.tmp 7) 2, none⟩,
                ⟨none, .store 25 (.tmp 92) (.tmp 91), none⟩])))))
            (.seq
            (.reg [
              ⟨some 94, .binOp .eql 3 (.tmp 15) (.const (.int .i64 5)) 3, none⟩,
              ⟨some 93, .assign (.tmp 94), none⟩])
            (.cond (.tmp 93)
              (.seq
              (.reg [
                ⟨some 95, .build 27 #[(0, .const (.int .i64 2))], none⟩,
                ⟨none, .store 27 (.tmp 7) (.tmp 95), none⟩])
              (.seq
              (.seq
              (.reg [
                ⟨some 96, .move (.tmp 0), none⟩,
                ⟨some 97, .call { callee := .value (.func 55), args := #[.tmp 96, .const (.int .i64 2)], argTypes := #[66, 3] }, none⟩,
                ⟨some 98, .binOp .add 3 (.const (.int .i64 40)) (.tmp 97) 3, none⟩,
                ⟨some 9, .assign (.tmp 98), none⟩])
              (.block 5
              (.loop
                (.seq
                (.seq
                (.reg [
                  ⟨some 99, .move (.tmp 9), none⟩,
                  ⟨some 100, .binOp .gtr 3 (.tmp 99) (.const (.int .i64 0)) 3, none⟩])
                (.cond (.tmp 100)
                  .skip
                  (.exit 5)))
                (.seq
                (.block 6
                (.reg [
                  ⟨some 103, .fieldAddr 27 (.tmp 7) 1, none⟩,
                  ⟨some 104, .load 24 (.tmp 103), none⟩,
                  ⟨some 105, .fieldAddr 27 (.tmp 7) 1, none⟩,
                  ⟨some 106, .load 24 (.tmp 105), none⟩,
                  ⟨some 107, .call { callee := .builtin .len, args := #[.tmp 106], argTypes := #[24] }, none⟩,
                  ⟨some 108, .binOp .add 3 (.const (.int .i64 1)) (.tmp 107) 3, none⟩,
                  ⟨some 109, .build 35 #[(0, .const (.int .i64 0)), (1, .tmp 108)], none⟩,
                  ⟨some 110, .buildSlice 24 1 #[(0, .tmp 109)], none⟩,
                  ⟨some 111, .call { callee := .builtin .append, args := #[.tmp 104, .tmp 110], argTypes := #[24, 24] }, none⟩,
                  ⟨some 112, .fieldAddr 27 (.tmp 7) 1, none⟩,
                  ⟨none, .store 24 (.tmp 112) (.tmp 111), none⟩]))
                (.reg [
                  ⟨some 101, .move (.tmp 9), none⟩,
                  ⟨some 102, .binOp .sub 3 (.tmp 101) (.const (.int .i64 1)) 3, none⟩,
                  ⟨some 9, .assign (.tmp 102), none⟩]))))))
              (.reg [
                ⟨some 113, .buildSlice 25 1 #[(0, .const (.int .i64 5))], none⟩,
                ⟨some 114, .fieldAddr 27 (.tmp 7) 2, none⟩,
                ⟨none, .store 25 (.tmp 114) (.tmp 113), none⟩])))
              .skip))))))))))))))
  (.seq
  (.reg [
    ⟨some 115, .load 27 (.tmp 7), none⟩,
    ⟨none, .store 27 (.tmp 6) (.tmp 115), none⟩])
  .ret))))
theorem hd53 : Try.f53.body.map dec = some c53 := by kernel_rfl
theorem e53 {R : AV → AH → Prop} {h : AH} (x0 x1 x2 : AV) (H : h.wf → AI Try.prog c53 (RetQ Try.prog [.cell 6 27] R) [x0, x1, x2, un, un, un, un, un, un, un, un, un, un, un, un, un, un, un, un, un, un, un, un, un, un, un, un, un, un, un, un, un, un, un, un, un, un, un, un, un, un, un, un, un, un, un, un, un, un, un, un, un, un, un, un, un, un, un, un, un, un, un, un, un, un, un, un, un, un, un, un, un, un, un, un, un, un, un, un, un, un, un, un, un, un, un, un, un, un, un, un, un, un, un, un, un, un, un, un, un, un, un, un, un, un, un, un, un, un, un, un, un, un, un, un, un] h) : AC Try.prog 53 [x0, x1, x2] h R :=
  AC_of' (rs := [.cell 6 27]) Try.func53 (by kernel_rfl) hd53 Try.ntmps53 rfl H
theorem dz53_0 {h0 : AH} {L : List It} {Q : Exit → List AV → List It → Prop} {a : List AV} {id : Nat} (H : LX Try.prog ⟨[14], []⟩ h0 L L (.c (⟨some 28, .fieldAddr 27 (.tmp 7) 1, none⟩, .p) <| .c (⟨some 29, .load 24 (.tmp 28), none⟩, .l) <| .c (⟨some 30, .move (.tmp 0), none⟩, .p) <| .c (⟨some 31, .fieldAddr 27 (.tmp 7) 1, none⟩, .p) <| .c (⟨some 32, .load 24 (.tmp 31), none⟩, .l) <| .c (⟨some 33, .call { callee := .builtin .len, args := #[.tmp 32], argTypes := #[24] }, none⟩, .p) <| .c (⟨some 35, .move (.tmp 0), none⟩, .p) <| .c (⟨some 38, .move (.tmp 0), none⟩, .p) <| .c (⟨some 34, .call { callee := .value (.func 55), args := #[.tmp 30, .tmp 33], argTypes := #[66, 3] }, none⟩, .e) <| .c (⟨some 36, .call { callee := .value (.func 55), args := #[.tmp 35, .const (.int .i64 5)], argTypes := #[66, 3] }, none⟩, .e) <| .c (⟨some 37, .binOp .sub 3 (.tmp 36) (.const (.int .i64 1)) 3, none⟩, .p) <| .c (⟨some 39, .call { callee := .value (.func 55), args := #[.tmp 38, .const (.int .i64 8)], argTypes := #[66, 3] }, none⟩, .e) <| .c (⟨some 40, .build 35 #[(0, .tmp 37), (1, .tmp 39)], none⟩, .p) <| .c (⟨some 41, .indexAddr 24 (.tmp 29) (.tmp 34), none⟩, .p) <| .c (⟨none, .store 35 (.tmp 41) (.tmp 40), none⟩, .f) <| .n) Q a) : LI Try.prog h0 L (.raw (.region id rg53_0 true)) Q a :=
  LI_draw (.c (0, .p) <| .c (1, .l) <| .c (2, .p) <| .c (3, .p) <| .c (4, .l) <| .c (5, .p) <| .c (7, .p) <| .c (10, .p) <| .c (6, .e) <| .c (8, .e) <| .c (9, .p) <| .c (11, .e) <| .c (12, .p) <| .c (13, .p) <| .c (14, .f) <| .n) [14] (by kernel_rfl) (by kernel_rfl) (by kernel_rfl) H
theorem db53_0 {h0 : AH} {L : List It} {Q : Exit → List AV → List It → Prop} {a : List AV} {id : Nat} (K : List (Nat × List AV)) (hK : ∀ x ∈ K, It.pt x.1 x.2 ∈ L) (H : LX Try.prog ⟨[6, 8, 11, 14], K⟩ h0 L L (.c (⟨some 28, .fieldAddr 27 (.tmp 7) 1, none⟩, .p) <| .c (⟨some 30, .move (.tmp 0), none⟩, .p) <| .c (⟨some 31, .fieldAddr 27 (.tmp 7) 1, none⟩, .p) <| .c (⟨some 32, .load 24 (.tmp 31), none⟩, .l) <| .c (⟨some 33, .call { callee := .builtin .len, args := #[.tmp 32], argTypes := #[24] }, none⟩, .p) <| .c (⟨some 35, .move (.tmp 0), none⟩, .p) <| .c (⟨some 38, .move (.tmp 0), none⟩, .p) <| .t (.c (⟨some 29, .load 24 (.tmp 28), none⟩, .e) <| .c (⟨some 34, .call { callee := .value (.func 55), args := #[.tmp 30, .tmp 33], argTypes := #[66, 3] }, none⟩, .f) <| .c (⟨some 36, .call { callee := .value (.func 55), args := #[.tmp 35, .const (.int .i64 5)], argTypes := #[66, 3] }, none⟩, .f) <| .c (⟨some 37, .binOp .sub 3 (.tmp 36) (.const (.int .i64 1)) 3, none⟩, .p) <| .c (⟨some 39, .call { callee := .value (.func 55), args := #[.tmp 38, .const (.int .i64 8)], argTypes := #[66, 3] }, none⟩, .f) <| .c (⟨some 40, .build 35 #[(0, .tmp 37), (1, .tmp 39)], none⟩, .p) <| .c (⟨some 41, .indexAddr 24 (.tmp 29) (.tmp 34), none⟩, .p) <| .c (⟨none, .store 35 (.tmp 41) (.tmp 40), none⟩, .f) <| .n) (.c (⟨some 34, .call { callee := .value (.func 55), args := #[.tmp 30, .tmp 33], argTypes := #[66, 3] }, none⟩, .f) <| .t (.c (⟨some 29, .load 24 (.tmp 28), none⟩, .e) <| .c (⟨some 36, .call { callee := .value (.func 55), args := #[.tmp 35, .const (.int .i64 5)], argTypes := #[66, 3] }, none⟩, .f) <| .c (⟨some 37, .binOp .sub 3 (.tmp 36) (.const (.int .i64 1)) 3, none⟩, .p) <| .c (⟨some 39, .call { callee := .value (.func 55), args := #[.tmp 38, .const (.int .i64 8)], argTypes := #[66, 3] }, none⟩, .f) <| .c (⟨some 40, .build 35 #[(0, .tmp 37), (1, .tmp 39)], none⟩, .p) <| .c (⟨some 41, .indexAddr 24 (.tmp 29) (.tmp 34), none⟩, .p) <| .c (⟨none, .store 35 (.tmp 41) (.tmp 40), none⟩, .f) <| .n) (.c (⟨some 36, .call { callee := .value (.func 55), args := #[.tmp 35, .const (.int .i64 5)], argTypes := #[66, 3] }, none⟩, .f) <| .c (⟨some 37, .binOp .sub 3 (.tmp 36) (.const (.int .i64 1)) 3, none⟩, .p) <| .t (.c (⟨some 29, .load 24 (.tmp 28), none⟩, .e) <| .c (⟨some 39, .call { callee := .value (.func 55), args := #[.tmp 38, .const (.int .i64 8)], argTypes := #[66, 3] }, none⟩, .f) <| .c (⟨some 40, .build 35 #[(0, .tmp 37), (1, .tmp 39)], none⟩, .p) <| .c (⟨some 41, .indexAddr 24 (.tmp 29) (.tmp 34), none⟩, .p) <| .c (⟨none, .store 35 (.tmp 41) (.tmp 40), none⟩, .f) <| .n) (.c (⟨some 39, .call { callee := .value (.func 55), args := #[.tmp 38, .const (.int .i64 8)], argTypes := #[66, 3] }, none⟩, .f) <| .c (⟨some 40, .build 35 #[(0, .tmp 37), (1, .tmp 39)], none⟩, .p) <| .c (⟨some 29, .load 24 (.tmp 28), none⟩, .e) <| .c (⟨some 41, .indexAddr 24 (.tmp 29) (.tmp 34), none⟩, .p) <| .c (⟨none, .store 35 (.tmp 41) (.tmp 40), none⟩, .f) <| .n)))) Q a) : LI Try.prog h0 L (.raw (.region id rg53_0 true)) Q a :=
  LI_drawK (.c (0, .p) <| .c (2, .p) <| .c (3, .p) <| .c (4, .l) <| .c (5, .p) <| .c (7, .p) <| .c (10, .p) <| .t (.c (1, .e) <| .c (6, .f) <| .c (8, .f) <| .c (9, .p) <| .c (11, .f) <| .c (12, .p) <| .c (13, .p) <| .c (14, .f) <| .n) (.c (6, .f) <| .t (.c (1, .e) <| .c (8, .f) <| .c (9, .p) <| .c (11, .f) <| .c (12, .p) <| .c (13, .p) <| .c (14, .f) <| .n) (.c (8, .f) <| .c (9, .p) <| .t (.c (1, .e) <| .c (11, .f) <| .c (12, .p) <| .c (13, .p) <| .c (14, .f) <| .n) (.c (11, .f) <| .c (12, .p) <| .c (1, .e) <| .c (13, .p) <| .c (14, .f) <| .n)))) [6, 8, 11, 14] K hK (by kernel_rfl) (by kernel_rfl) (by kernel_rfl) H
theorem dr53_0 (m : Nat) {Q : Exit → List AV → AH → Prop} {a : List AV} {h : AH} {id : Nat} (H : AX Try.prog m h [(⟨some 28, .fieldAddr 27 (.tmp 7) 1, none⟩, true),
  (⟨some 29, .load 24 (.tmp 28), none⟩, true),
  (⟨some 30, .move (.tmp 0), none⟩, true),
  (⟨some 31, .fieldAddr 27 (.tmp 7) 1, none⟩, true),
  (⟨some 32, .load 24 (.tmp 31), none⟩, true),
  (⟨some 33, .call { callee := .builtin .len, args := #[.tmp 32], argTypes := #[24] }, none⟩, true),
  (⟨some 35, .move (.tmp 0), none⟩, true),
  (⟨some 38, .move (.tmp 0), none⟩, true),
  (⟨some 34, .call { callee := .value (.func 55), args := #[.tmp 30, .tmp 33], argTypes := #[66, 3] }, none⟩, false),
  (⟨some 36, .call { callee := .value (.func 55), args := #[.tmp 35, .const (.int .i64 5)], argTypes := #[66, 3] }, none⟩, false),
  (⟨some 37, .binOp .sub 3 (.tmp 36) (.const (.int .i64 1)) 3, none⟩, true),
  (⟨some 39, .call { callee := .value (.func 55), args := #[.tmp 38, .const (.int .i64 8)], argTypes := #[66, 3] }, none⟩, false),
  (⟨some 40, .build 35 #[(0, .tmp 37), (1, .tmp 39)], none⟩, true),
  (⟨some 41, .indexAddr 24 (.tmp 29) (.tmp 34), none⟩, true),
  (⟨none, .store 35 (.tmp 41) (.tmp 40), none⟩, false)] (fun a' h' => Q .normal a' h') a h) : AI Try.prog (.raw (.region id rg53_0 true)) Q a h :=
  AI_draw [(0, true), (1, true), (2, true), (3, true), (4, true), (5, true), (7, true), (10, true), (6, false), (8, false), (9, true), (11, false), (12, true), (13, true), (14, false)] m (by kernel_rfl) (by kernel_rfl) (by kernel_rfl) H
theorem dz53_1 {h0 : AH} {L : List It} {Q : Exit → List AV → List It → Prop} {a : List AV} {id : Nat} (H : LX Try.prog ⟨[6, 8], []⟩ h0 L L (.c (⟨some 44, .fieldAddr 27 (.tmp 7) 2, none⟩, .p) <| .c (⟨some 45, .load 25 (.tmp 44), none⟩, .l) <| .c (⟨some 46, .move (.tmp 0), none⟩, .p) <| .c (⟨some 47, .call { callee := .value (.func 55), args := #[.tmp 46, .const (.int .i64 12)], argTypes := #[66, 3] }, none⟩, .e) <| .c (⟨some 48, .binOp .sub 3 (.tmp 47) (.const (.int .i64 1)) 3, none⟩, .p) <| .c (⟨some 49, .buildSlice 25 1 #[(0, .tmp 48)], none⟩, .e) <| .c (⟨some 50, .call { callee := .builtin .append, args := #[.tmp 45, .tmp 49], argTypes := #[25, 25] }, none⟩, .f) <| .c (⟨some 51, .fieldAddr 27 (.tmp 7) 2, none⟩, .p) <| .c (⟨none, .store 25 (.tmp 51) (.tmp 50), none⟩, .f) <| .n) Q a) : LI Try.prog h0 L (.raw (.region id rg53_1 true)) Q a :=
  LI_draw (.c (0, .p) <| .c (1, .l) <| .c (2, .p) <| .c (3, .e) <| .c (4, .p) <| .c (5, .e) <| .c (6, .f) <| .c (7, .p) <| .c (8, .f) <| .n) [6, 8] (by kernel_rfl) (by kernel_rfl) (by kernel_rfl) H
theorem db53_1 {h0 : AH} {L : List It} {Q : Exit → List AV → List It → Prop} {a : List AV} {id : Nat} (K : List (Nat × List AV)) (hK : ∀ x ∈ K, It.pt x.1 x.2 ∈ L) (H : LX Try.prog ⟨[3, 5, 6, 8], K⟩ h0 L L (.c (⟨some 44, .fieldAddr 27 (.tmp 7) 2, none⟩, .p) <| .c (⟨some 46, .move (.tmp 0), none⟩, .p) <| .t (.c (⟨some 45, .load 25 (.tmp 44), none⟩, .e) <| .c (⟨some 47, .call { callee := .value (.func 55), args := #[.tmp 46, .const (.int .i64 12)], argTypes := #[66, 3] }, none⟩, .f) <| .c (⟨some 48, .binOp .sub 3 (.tmp 47) (.const (.int .i64 1)) 3, none⟩, .p) <| .c (⟨some 49, .buildSlice 25 1 #[(0, .tmp 48)], none⟩, .f) <| .c (⟨some 50, .call { callee := .builtin .append, args := #[.tmp 45, .tmp 49], argTypes := #[25, 25] }, none⟩, .f) <| .c (⟨some 51, .fieldAddr 27 (.tmp 7) 2, none⟩, .p) <| .c (⟨none, .store 25 (.tmp 51) (.tmp 50), none⟩, .f) <| .n) (.c (⟨some 47, .call { callee := .value (.func 55), args := #[.tmp 46, .const (.int .i64 12)], argTypes := #[66, 3] }, none⟩, .f) <| .c (⟨some 48, .binOp .sub 3 (.tmp 47) (.const (.int .i64 1)) 3, none⟩, .p) <| .t (.c (⟨some 45, .load 25 (.tmp 44), none⟩, .e) <| .c (⟨some 49, .buildSlice 25 1 #[(0, .tmp 48)], none⟩, .f) <| .c (⟨some 50, .call { callee := .builtin .append, args := #[.tmp 45, .tmp 49], argTypes := #[25, 25] }, none⟩, .f) <| .c (⟨some 51, .fieldAddr 27 (.tmp 7) 2, none⟩, .p) <| .c (⟨none, .store 25 (.tmp 51) (.tmp 50), none⟩, .f) <| .n) (.c (⟨some 49, .buildSlice 25 1 #[(0, .tmp 48)], none⟩, .f) <| .c (⟨some 45, .load 25 (.tmp 44), none⟩, .e) <| .c (⟨some 50, .call { callee := .builtin .append, args := #[.tmp 45, .tmp 49], argTypes := #[25, 25] }, none⟩, .f) <| .c (⟨some 51, .fieldAddr 27 (.tmp 7) 2, none⟩, .p) <| .c (⟨none, .store 25 (.tmp 51) (.tmp 50), none⟩, .f) <| .n))) Q a) : LI Try.prog h0 L (.raw (.region id rg53_1 true)) Q a :=
  LI_drawK (.c (0, .p) <| .c (2, .p) <| .t (.c (1, .e) <| .c (3, .f) <| .c (4, .p) <| .c (5, .f) <| .c (6, .f) <| .c (7, .p) <| .c (8, .f) <| .n) (.c (3, .f) <| .c (4, .p) <| .t (.c (1, .e) <| .c (5, .f) <| .c (6, .f) <| .c (7, .p) <| .c (8, .f) <| .n) (.c (5, .f) <| .c (1, .e) <| .c (6, .f) <| .c (7, .p) <| .c (8, .f) <| .n))) [3, 5, 6, 8] K hK (by kernel_rfl) (by kernel_rfl) (by kernel_rfl) H
theorem dr53_1 (m : Nat) {Q : Exit → List AV → AH → Prop} {a : List AV} {h : AH} {id : Nat} (H : AX Try.prog m h [(⟨some 44, .fieldAddr 27 (.tmp 7) 2, none⟩, true),
  (⟨some 45, .load 25 (.tmp 44), none⟩, true),
  (⟨some 46, .move (.tmp 0), none⟩, true),
  (⟨some 47, .call { callee := .value (.func 55), args := #[.tmp 46, .const (.int .i64 12)], argTypes := #[66, 3] }, none⟩, false),
  (⟨some 48, .binOp .sub 3 (.tmp 47) (.const (.int .i64 1)) 3, none⟩, true),
  (⟨some 49, .buildSlice 25 1 #[(0, .tmp 48)], none⟩, false),
  (⟨some 50, .call { callee := .builtin .append, args := #[.tmp 45, .tmp 49], argTypes := #[25, 25] }, none⟩, false),
  (⟨some 51, .fieldAddr 27 (.tmp 7) 2, none⟩, true),
  (⟨none, .store 25 (.tmp 51) (.tmp 50), none⟩, false)] (fun a' h' => Q .normal a' h') a h) : AI Try.prog (.raw (.region id rg53_1 true)) Q a h :=
  AI_draw [(0, true), (1, true), (2, true), (3, false), (4, true), (5, false), (6, false), (7, true), (8, false)] m (by kernel_rfl) (by kernel_rfl) (by kernel_rfl) H
theorem dz53_2 {h0 : AH} {L : List It} {Q : Exit → List AV → List It → Prop} {a : List AV} {id : Nat} (H : LX Try.prog ⟨[], []⟩ h0 L L (.c (⟨some 81, .fieldAddr 27 (.tmp 7) 2, none⟩, .p) <| .c (⟨some 82, .load 25 (.tmp 81), none⟩, .l) <| .c (⟨some 83, .call { callee := .builtin .len, args := #[.tmp 82], argTypes := #[25] }, none⟩, .p) <| .c (⟨some 84, .move (.tmp 0), none⟩, .p) <| .c (⟨some 85, .call { callee := .value (.func 55), args := #[.tmp 84, .const (.int .i64 2)], argTypes := #[66, 3] }, none⟩, .e) <| .c (⟨some 86, .binOp .add 3 (.const (.int .i64 6)) (.tmp 85) 3, none⟩, .p) <| .c (⟨some 87, .binOp .lss 3 (.tmp 83) (.tmp 86) 3, none⟩, .p) <| .n) Q a) : LI Try.prog h0 L (.raw (.region id rg53_2 true)) Q a :=
  LI_draw (.c (0, .p) <| .c (1, .l) <| .c (2, .p) <| .c (3, .p) <| .c (4, .e) <| .c (5, .p) <| .c (6, .p) <| .n) [] (by kernel_rfl) (by kernel_rfl) (by kernel_rfl) H
theorem db53_2 {h0 : AH} {L : List It} {Q : Exit → List AV → List It → Prop} {a : List AV} {id : Nat} (K : List (Nat × List AV)) (hK : ∀ x ∈ K, It.pt x.1 x.2 ∈ L) (H : LX Try.prog ⟨[4], K⟩ h0 L L (.c (⟨some 81, .fieldAddr 27 (.tmp 7) 2, none⟩, .p) <| .c (⟨some 84, .move (.tmp 0), none⟩, .p) <| .t (.c (⟨some 82, .load 25 (.tmp 81), none⟩, .e) <| .c (⟨some 83, .call { callee := .builtin .len, args := #[.tmp 82], argTypes := #[25] }, none⟩, .p) <| .c (⟨some 85, .call { callee := .value (.func 55), args := #[.tmp 84, .const (.int .i64 2)], argTypes := #[66, 3] }, none⟩, .f) <| .c (⟨some 86, .binOp .add 3 (.const (.int .i64 6)) (.tmp 85) 3, none⟩, .p) <| .c (⟨some 87, .binOp .lss 3 (.tmp 83) (.tmp 86) 3, none⟩, .p) <| .n) (.c (⟨some 85, .call { callee := .value (.func 55), args := #[.tmp 84, .const (.int .i64 2)], argTypes := #[66, 3] }, none⟩, .f) <| .c (⟨some 86, .binOp .add 3 (.const (.int .i64 6)) (.tmp 85) 3, none⟩, .p) <| .c (⟨some 82, .load 25 (.tmp 81), none⟩, .e) <| .c (⟨some 83, .call { callee := .builtin .len, args := #[.tmp 82], argTypes := #[25] }, none⟩, .p) <| .c (⟨some 87, .binOp .lss 3 (.tmp 83) (.tmp 86) 3, none⟩, .p) <| .n)) Q a) : LI Try.prog h0 L (.raw (.region id rg53_2 true)) Q a :=
  LI_drawK (.c (0, .p) <| .c (3, .p) <| .t (.c (1, .e) <| .c (2, .p) <| .c (4, .f) <| .c (5, .p) <| .c (6, .p) <| .n) (.c (4, .f) <| .c (5, .p) <| .c (1, .e) <| .c (2, .p) <| .c (6, .p) <| .n)) [4] K hK (by kernel_rfl) (by kernel_rfl) (by kernel_rfl) H
theorem dr53_2 (m : Nat) {Q : Exit → List AV → AH → Prop} {a : List AV} {h : AH} {id : Nat} (H : AX Try.prog m h [(⟨some 81, .fieldAddr 27 (.tmp 7) 2, none⟩, true),
  (⟨some 82, .load 25 (.tmp 81), none⟩, true),
  (⟨some 83, .call { callee := .builtin .len, args := #[.tmp 82], argTypes := #[25] }, none⟩, true),
  (⟨some 84, .move (.tmp 0), none⟩, true),
  (⟨some 85, .call { callee := .value (.func 55), args := #[.tmp 84, .const (.int .i64 2)], argTypes := #[66, 3] }, none⟩, false),
  (⟨some 86, .binOp .add 3 (.const (.int .i64 6)) (.tmp 85) 3, none⟩, true),
  (⟨some 87, .binOp .lss 3 (.tmp 83) (.tmp 86) 3, none⟩, true)] (fun a' h' => Q .normal a' h') a h) : AI Try.prog (.raw (.region id rg53_2 true)) Q a h :=
  AI_draw [(0, true), (1, true), (2, true), (3, true), (4, false), (5, true), (6, true)] m (by kernel_rfl) (by kernel_rfl) (by kernel_rfl) H

noncomputable def rg16_0 : Array Oper := rawAt Try.f16 0
noncomputable def rg16_1 : Array Oper := rawAt Try.f16 1
/-- spec.DrawCountPaths -/
noncomputable def c16 : IC :=
  (.seq
  (.reg [
    ⟨some 2, .alloc 27, none⟩,
    ⟨some 3, .assign (.const (.int .i64 0)), none⟩,
    ⟨some 4, .assign (.const (.int .i64 0)), none⟩])
  (.seq
  (.reg [
    ⟨some 8, .move (.tmp 0), none⟩,
    ⟨some 9, .build 69 #[(0, .tmp 8)], none⟩,
    ⟨some 10, .box 69 (.tmp 9), none⟩,
    ⟨some 5, .assign (.tmp 10), none⟩])
  (.seq
  (.reg [
    ⟨some 11, .move (.tmp 5), none⟩,
    ⟨some 12, .call { callee := .value (.func 53), args := #[.tmp 11, .const (.int .i64 3), .const (.int .i64 8)], argTypes := #[66, 3, 3] }, none⟩,
    ⟨some 6, .alloc 27, none⟩,
    ⟨none, .store 27 (.tmp 6) (.tmp 12), none⟩])
  (.seq
  (.raw (.region 3 rg16_0 true))
  (.seq
  (.raw (.region 4 rg16_1 true))
  .ret)))))
theorem hd16 : Try.f16.body.map dec = some c16 := by kernel_rfl
theorem e16 {R : AV → AH → Prop} {h : AH} (x0 : AV) (H : h.wf → AI Try.prog c16 (RetQ Try.prog [.cell 2 27, .tmp 3, .tmp 4] R) [x0, un, un, un, un, un, un, un, un, un, un, un, un, un, un, un, un, un, un, un, un, un, un, un, un, un, un, un, un, un, un, un, un] h) : AC Try.prog 16 [x0] h R :=
  AC_of' (rs := [.cell 2 27, .tmp 3, .tmp 4]) Try.func16 (by kernel_rfl) hd16 Try.ntmps16 rfl H
theorem dz16_0 {h0 : AH} {L : List It} {Q : Exit → List AV → List It → Prop} {a : List AV} {id : Nat} (H : LX Try.prog ⟨[], []⟩ h0 L L (.c (⟨some 13, .fieldAddr 27 (.tmp 6) 0, none⟩, .p) <| .c (⟨some 14, .load 3 (.tmp 13), none⟩, .l) <| .c (⟨some 16, .fieldAddr 27 (.tmp 6) 1, none⟩, .p) <| .c (⟨some 17, .load 24 (.tmp 16), none⟩, .l) <| .c (⟨some 18, .call { callee := .builtin .len, args := #[.tmp 17], argTypes := #[24] }, none⟩, .p) <| .c (⟨some 15, .call { callee := .value (.func 54), args := #[.tmp 14, .const (.int .i64 0)], argTypes := #[3, 3] }, none⟩, .e) <| .c (⟨some 19, .binOp .add 3 (.tmp 15) (.tmp 18) 3, none⟩, .p) <| .c (⟨some 7, .assign (.tmp 19), none⟩, .p) <| .n) Q a) : LI Try.prog h0 L (.raw (.region id rg16_0 true)) Q a :=
  LI_draw (.c (0, .p) <| .c (1, .l) <| .c (3, .p) <| .c (4, .l) <| .c (5, .p) <| .c (2, .e) <| .c (6, .p) <| .c (7, .p) <| .n) [] (by kernel_rfl) (by kernel_rfl) (by kernel_rfl) H
theorem db16_0 {h0 : AH} {L : List It} {Q : Exit → List AV → List It → Prop} {a : List AV} {id : Nat} (K : List (Nat × List AV)) (hK : ∀ x ∈ K, It.pt x.1 x.2 ∈ L) (H : LX Try.prog ⟨[2], K⟩ h0 L L (.c (⟨some 13, .fieldAddr 27 (.tmp 6) 0, none⟩, .p) <| .c (⟨some 14, .load 3 (.tmp 13), none⟩, .l) <| .c (⟨some 16, .fieldAddr 27 (.tmp 6) 1, none⟩, .p) <| .t (.c (⟨some 15, .call { callee := .value (.func 54), args := #[.tmp 14, .const (.int .i64 0)], argTypes := #[3, 3] }, none⟩, .f) <| .c (⟨some 17, .load 24 (.tmp 16), none⟩, .e) <| .c (⟨some 18, .call { callee := .builtin .len, args := #[.tmp 17], argTypes := #[24] }, none⟩, .p) <| .c (⟨some 19, .binOp .add 3 (.tmp 15) (.tmp 18) 3, none⟩, .p) <| .c (⟨some 7, .assign (.tmp 19), none⟩, .p) <| .n) (.c (⟨some 17, .load 24 (.tmp 16), none⟩, .e) <| .c (⟨some 18, .call { callee := .builtin .len, args := #[.tmp 17], argTypes := #[24] }, none⟩, .p) <| .c (⟨some 15, .call { callee := .value (.func 54), args := #[.tmp 14, .const (.int .i64 0)], argTypes := #[3, 3] }, none⟩, .f) <| .c (⟨some 19, .binOp .add 3 (.tmp 15) (.tmp 18) 3, none⟩, .p) <| .c (⟨some 7, .assign (.tmp 19), none⟩, .p) <| .n)) Q a) : LI Try.prog h0 L (.raw (.region id rg16_0 true)) Q a :=
  LI_drawK (.c (0, .p) <| .c (1, .l) <| .c (3, .p) <| .t (.c (2, .f) <| .c (4, .e) <| .c (5, .p) <| .c (6, .p) <| .c (7, .p) <| .n) (.c (4, .e) <| .c (5, .p) <| .c (2, .f) <| .c (6, .p) <| .c (7, .p) <| .n)) [2] K hK (by kernel_rfl) (by kernel_rfl) (by kernel_rfl) H
theorem dr16_0 (m : Nat) {Q : Exit → List AV → AH → Prop} {a : List AV} {h : AH} {id : Nat} (H : AX Try.prog m h [(⟨some 13, .fieldAddr 27 (.tmp 6) 0, none⟩, true),
  (⟨some 14, .load 3 (.tmp 13), none⟩, true),
  (⟨some 16, .fieldAddr 27 (.tmp 6) 1, none⟩, true),
  (⟨some 17, .load 24 (.tmp 16), none⟩, true),
  (⟨some 18, .call { callee := .builtin .len, args := #[.tmp 17], argTypes := #[24] }, none⟩, true),
  (⟨some 15, .call { callee := .value (.func 54), args := #[.tmp 14, .const (.int .i64 0)], argTypes := #[3, 3] }, none⟩, false),
  (⟨some 19, .binOp .add 3 (.tmp 15) (.tmp 18) 3, none⟩, true),
  (⟨some 7, .assign (.tmp 19), none⟩, true)] (fun a' h' => Q .normal a' h') a h) : AI Try.prog (.raw (.region id rg16_0 true)) Q a h :=
  AI_draw [(0, true), (1, true), (3, true), (4, true), (5, true), (2, false), (6, true), (7, true)] m (by kernel_rfl) (by kernel_rfl) (by kernel_rfl) H
theorem dz16_1 {h0 : AH} {L : List It} {Q : Exit → List AV → List It → Prop} {a : List AV} {id : Nat} (H : LX Try.prog ⟨[13], []⟩ h0 L L (.c (⟨some 20, .load 27 (.tmp 6), none⟩, .l) <| .c (⟨some 21, .move (.tmp 5), none⟩, .p) <| .c (⟨some 22, .move (.tmp 7), none⟩, .p) <| .c (⟨some 23, .binOp .add 3 (.tmp 22) (.const (.int .i64 2)) 3, none⟩, .p) <| .c (⟨some 26, .move (.tmp 7), none⟩, .p) <| .c (⟨some 27, .binOp .sub 3 (.tmp 26) (.const (.int .i64 1)) 3, none⟩, .p) <| .c (⟨some 28, .move (.tmp 5), none⟩, .p) <| .c (⟨some 29, .move (.tmp 7), none⟩, .p) <| .c (⟨some 30, .binOp .add 3 (.tmp 29) (.const (.int .i64 2)) 3, none⟩, .p) <| .c (⟨some 24, .call { callee := .value (.func 55), args := #[.tmp 21, .tmp 23], argTypes := #[66, 3] }, none⟩, .e) <| .c (⟨some 25, .binOp .sub 3 (.tmp 24) (.const (.int .i64 1)) 3, none⟩, .p) <| .c (⟨some 31, .call { callee := .value (.func 55), args := #[.tmp 28, .tmp 30], argTypes := #[66, 3] }, none⟩, .e) <| .c (⟨some 32, .binOp .sub 3 (.tmp 27) (.tmp 31) 3, none⟩, .p) <| .c (⟨none, .store 27 (.tmp 2) (.tmp 20), none⟩, .f) <| .c (⟨some 3, .assign (.tmp 25), none⟩, .p) <| .c (⟨some 4, .assign (.tmp 32), none⟩, .p) <| .n) Q a) : LI Try.prog h0 L (.raw (.region id rg16_1 true)) Q a :=
  LI_draw (.c (0, .l) <| .c (1, .p) <| .c (2, .p) <| .c (3, .p) <| .c (6, .p) <| .c (7, .p) <| .c (8, .p) <| .c (9, .p) <| .c (10, .p) <| .c (4, .e) <| .c (5, .p) <| .c (11, .e) <| .c (12, .p) <| .c (13, .f) <| .c (14, .p) <| .c (15, .p) <| .n) [13] (by kernel_rfl) (by kernel_rfl) (by kernel_rfl) H
theorem db16_1 {h0 : AH} {L : List It} {Q : Exit → List AV → List It → Prop} {a : List AV} {id : Nat} (K : List (Nat × List AV)) (hK : ∀ x ∈ K, It.pt x.1 x.2 ∈ L) (H : LX Try.prog ⟨[4, 11, 13], K⟩ h0 L L (.c (⟨some 21, .move (.tmp 5), none⟩, .p) <| .c (⟨some 22, .move (.tmp 7), none⟩, .p) <| .c (⟨some 23, .binOp .add 3 (.tmp 22) (.const (.int .i64 2)) 3, none⟩, .p) <| .c (⟨some 26, .move (.tmp 7), none⟩, .p) <| .c (⟨some 27, .binOp .sub 3 (.tmp 26) (.const (.int .i64 1)) 3, none⟩, .p) <| .c (⟨some 28, .move (.tmp 5), none⟩, .p) <| .c (⟨some 29, .move (.tmp 7), none⟩, .p) <| .c (⟨some 30, .binOp .add 3 (.tmp 29) (.const (.int .i64 2)) 3, none⟩, .p) <| .t (.c (⟨some 20, .load 27 (.tmp 6), none⟩, .e) <| .c (⟨some 24, .call { callee := .value (.func 55), args := #[.tmp 21, .tmp 23], argTypes := #[66, 3] }, none⟩, .f) <| .c (⟨some 25, .binOp .sub 3 (.tmp 24) (.const (.int .i64 1)) 3, none⟩, .p) <| .c (⟨some 31, .call { callee := .value (.func 55), args := #[.tmp 28, .tmp 30], argTypes := #[66, 3] }, none⟩, .f) <| .c (⟨some 32, .binOp .sub 3 (.tmp 27) (.tmp 31) 3, none⟩, .p) <| .c (⟨none, .store 27 (.tmp 2) (.tmp 20), none⟩, .f) <| .c (⟨some 3, .assign (.tmp 25), none⟩, .p) <| .c (⟨some 4, .assign (.tmp 32), none⟩, .p) <| .n) (.c (⟨some 24, .call { callee := .value (.func 55), args := #[.tmp 21, .tmp 23], argTypes := #[66, 3] }, none⟩, .f) <| .c (⟨some 25, .binOp .sub 3 (.tmp 24) (.const (.int .i64 1)) 3, none⟩, .p) <| .t (.c (⟨some 20, .load 27 (.tmp 6), none⟩, .e) <| .c (⟨some 31, .call { callee := .value (.func 55), args := #[.tmp 28, .tmp 30], argTypes := #[66, 3] }, none⟩, .f) <| .c (⟨some 32, .binOp .sub 3 (.tmp 27) (.tmp 31) 3, none⟩, .p) <| .c (⟨none, .store 27 (.tmp 2) (.tmp 20), none⟩, .f) <| .c (⟨some 3, .assign (.tmp 25), none⟩, .p) <| .c (⟨some 4, .assign (.tmp 32), none⟩, .p) <| .n) (.c (⟨some 31, .call { callee := .value (.func 55), args := #[.tmp 28, .tmp 30], argTypes := #[66, 3] }, none⟩, .f) <| .c (⟨some 32, .binOp .sub 3 (.tmp 27) (.tmp 31) 3, none⟩, .p) <| .c (⟨some 20, .load 27 (.tmp 6), none⟩, .e) <| .c (⟨none, .store 27 (.tmp 2) (.tmp 20), none⟩, .f) <| .c (⟨some 3, .assign (.tmp 25), none⟩, .p) <| .c (⟨some 4, .assign (.tmp 32), none⟩, .p) <| .n))) Q a) : LI Try.prog h0 L (.raw (.region id rg16_1 true)) Q a :=
  LI_drawK (.c (1, .p) <| .c (2, .p) <| .c (3, .p) <| .c (6, .p) <| .c (7, .p) <| .c (8, .p) <| .c (9, .p) <| .c (10, .p) <| .t (.c (0, .e) <| .c (4, .f) <| .c (5, .p) <| .c (11, .f) <| .c (12, .p) <| .c (13, .f) <| .c (14, .p) <| .c (15, .p) <| .n) (.c (4, .f) <| .c (5, .p) <| .t (.c (0, .e) <| .c (11, .f) <| .c (12, .p) <| .c (13, .f) <| .c (14, .p) <| .c (15, .p) <| .n) (.c (11, .f) <| .c (12, .p) <| .c (0, .e) <| .c (13, .f) <| .c (14, .p) <| .c (15, .p) <| .n))) [4, 11, 13] K hK (by kernel_rfl) (by kernel_rfl) (by kernel_rfl) H
theorem dr16_1 (m : Nat) {Q : Exit → List AV → AH → Prop} {a : List AV} {h : AH} {id : Nat} (H : AX Try.prog m h [(⟨some 20, .load 27 (.tmp 6), none⟩, true),
  (⟨some 21, .move (.tmp 5), none⟩, true),
  (⟨some 22, .move (.tmp 7), none⟩, true),
  (⟨some 23, .binOp .add 3 (.tmp 22) (.const (.int .i64 2)) 3, none⟩, true),
  (⟨some 26, .move (.tmp 7), none⟩, true),
  (⟨some 27, .binOp .sub 3 (.tmp 26) (.const (.int .i64 1)) 3, none⟩, true),
  (⟨some 28, .move (.tmp 5), none⟩, true),
  (⟨some 29, .move (.tmp 7), none⟩, true),
  (⟨some 30, .binOp .add 3 (.tmp 29) (.const (.int .i64 2)) 3, none⟩, true),
  (⟨some 24, .call { callee := .value (.func 55), args := #[.tmp 21, .tmp 23], argTypes := #[66, 3] }, none⟩, false),
  (⟨some 25, .binOp .sub 3 (.tmp 24) (.const (.int .i64 1)) 3, none⟩, true),
  (⟨some 31, .call { callee := .value (.func 55), args := #[.tmp 28, .tmp 30], argTypes := #[66, 3] }, none⟩, false),
  (⟨some 32, .binOp .sub 3 (.tmp 27) (.tmp 31) 3, none⟩, true),
  (⟨none, .store 27 (.tmp 2) (.tmp 20), none⟩, false),
  (⟨some 3, .assign (.tmp 25), none⟩, true),
  (⟨some 4, .assign (.tmp 32), none⟩, true)] (fun a' h' => Q .normal a' h') a h) : AI Try.prog (.raw (.region id rg16_1 true)) Q a h :=
  AI_draw [(0, true), (1, true), (2, true), (3, true), (6, true), (7, true), (8, true), (9, true), (10, true), (4, false), (5, true), (11, false), (12, true), (13, false), (14, true), (15, true)] m (by kernel_rfl) (by kernel_rfl) (by kernel_rfl) H

/-- (*impl.Plan).exponents -/
def c62 : IC :=
  (.seq
  (.reg [
    ⟨some 2, .assign (.const (.slice none 0 0)), none⟩])
  (.seq
  (.reg [
    ⟨some 11, .buildSlice 77 0 #[], none⟩,
    ⟨some 3, .assign (.tmp 11), none⟩])
  (.seq
  (.seq
  (.reg [
    ⟨some 12, .move (.tmp 0), none⟩,
    ⟨some 13, .nilCheck (.tmp 12), none⟩,
    ⟨some 14, .fieldAddr 27 (.tmp 13) 0, none⟩,
    ⟨some 15, .load 3 (.tmp 14), none⟩,
    ⟨some 16, .move (.const (.int .i64 0)), none⟩])
  (.block 0
  (.loop
    (.seq
    (.reg [
      ⟨some 17, .binOp .lss 3 (.tmp 16) (.tmp 15) 3, none⟩])
    (.seq
    (.cond (.tmp 17)
      .skip
      (.exit 0))
    (.seq
    (.block 1
    (.seq
    (.reg [
      ⟨some 18, .move (.tmp 16), none⟩,
      ⟨some 4, .assign (.tmp 18), none⟩])
    (.seq
    (.reg [
      ⟨some 19, .move (.tmp 0), none⟩,
      ⟨some 20, .nilCheck (.tmp 19), none⟩,
      ⟨some 21, .fieldAddr 27 (.tmp 20) 0, none⟩,
      ⟨some 22, .load 3 (.tmp 21), none⟩,
      ⟨some 23, .makeSlice 25 (.tmp 22) (.tmp 22), none⟩,
      ⟨some 5, .assign (.tmp 23), none⟩])
    (.seq
    (.reg [
      ⟨some 24, .move (.tmp 5), none⟩,
      ⟨some 25, .move (.tmp 4), none⟩,
      ⟨some 26, .indexAddr 25 (.tmp 24) (.tmp 25), none⟩,
      ⟨none, .store 3 (.tmp 26) (.const (.int .i64 1)), none⟩])
    (.reg [
      ⟨some 27, .move (.tmp 3), none⟩,
      ⟨some 28, .move (.tmp 5), none⟩,
      ⟨some 29, .buildSlice 77 1 #[(0, .tmp 28)], none⟩,
      ⟨some 30, .call { callee := .builtin .append, args := #[.tmp 27, .tmp 29], argTypes := #[77, 77] }, none⟩,
      ⟨some 3, .assign (.tmp 30), none⟩])))))
    (.reg [
      ⟨some 31, .binOp .add 3 (.tmp 16) (.const (.int .i64 1)) 3, none⟩,
      ⟨some 16, .move (.tmp 31), none⟩])))))))
  (.seq
  (.seq
  (.reg [
    ⟨some 32, .move (.tmp 0), none⟩,
    ⟨some 33, .nilCheck (.tmp 32), none⟩,
    ⟨some 34, .fieldAddr 27 (.tmp 33) 1, none⟩,
    ⟨some 35, .load 24 (.tmp 34), none⟩,
    ⟨some 36, .call { callee := .builtin .len, args := #[.tmp 35], argTypes := #[24] }, none⟩,
    ⟨some 37, .move (.const (.int .i64 0)), none⟩])
  (.block 2
  (.loop
    (.seq
    (.reg [
      ⟨some 38, .binOp .lss 3 (.tmp 37) (.tmp 36) 3, none⟩])
    (.seq
    (.cond (.tmp 38)
      .skip
      (.exit 2))
    (.seq
    (.block 3
    (.seq
    (.reg [
      ⟨some 39, .indexAddr 24 (.tmp 35) (.tmp 37), none⟩,
      ⟨some 40, .load 35 (.tmp 39), none⟩,
      ⟨some 7, .alloc 35, none⟩,
      ⟨none, .store 35 (.tmp 7) (.tmp 40), none⟩])
    (.seq
    (.reg [
      ⟨some 41, .buildSlice 25 0 #[], none⟩,
      ⟨some 8, .assign (.tmp 41), none⟩])
    (.seq
    (.seq
    (.reg [
      ⟨some 42, .move (.tmp 3), none⟩,
      ⟨some 43, .fieldAddr 35 (.tmp 7) 0, none⟩,
      ⟨some 44, .load 3 (.tmp 43), none⟩,
      ⟨some 45, .indexAddr 77 (.tmp 42) (.tmp 44), none⟩,
      ⟨some 46, .load 25 (.tmp 45), none⟩,
      ⟨some 47, .call { callee := .builtin .len, args := #[.tmp 46], argTypes := #[25] }, none⟩,
      ⟨some 48, .move (.const (.int .i64 0)), none⟩])
    (.block 4
    (.loop
      (.seq
      (.reg [
        ⟨some 49, .binOp .lss 3 (.tmp 48) (.tmp 47) 3, none⟩])
      (.seq
      (.cond (.tmp 49)
        .skip
        (.exit 4))
      (.seq
      (.block 5
      (.seq
      (.reg [
        ⟨some 50, .move (.tmp 48), none⟩,
        ⟨some 51, .indexAddr 25 (.tmp 46) (.tmp 48), none⟩,
        ⟨some 52, .load 3 (.tmp 51), none⟩,
        ⟨some 9, .assign (.tmp 50), none⟩,
        ⟨some 10, .assign (.tmp 52), none⟩])
      (.reg [
        ⟨some 53, .move (.tmp 8), none⟩,
        ⟨some 54, .move (.tmp 10), none⟩,
        ⟨some 55, .move (.tmp 3), none⟩,
        ⟨some 56, .fieldAddr 35 (.tmp 7) 1, none⟩,
        ⟨some 57, .load 3 (.tmp 56), none⟩,
        ⟨some 58, .indexAddr 77 (.tmp 55) (.tmp 57), none⟩,
        ⟨some 59, .load 25 (.tmp 58), none⟩,
        ⟨some 60, .move (.tmp 9), none⟩,
        ⟨some 61, .indexAddr 25 (.tmp 59) (.tmp 60), none⟩,
        ⟨some 62, .load 3 (.tmp 61), none⟩,
        ⟨some 63, .binOp .add 3 (.tmp 54) (.tmp 62) 3, none⟩,
        ⟨some 64, .call { callee := .builtin .min, args := #[.tmp 63, .const (.int .i64 1000001)], argTypes := #[3, 3] }, none⟩,
        ⟨some 65, .buildSlice 25 1 #[(0, .tmp 64)], none⟩,
        ⟨some 66, .call { callee := .builtin .append, args := #[.tmp 53, .tmp 65], argTypes := #[25, 25] }, none⟩,
        ⟨some 8, .assign (.tmp 66), none⟩])))
      (.reg [
        ⟨some 67, .binOp .add 3 (.tmp 48) (.const (.int .i64 1)) 3, none⟩,
        ⟨some 48, .move (.tmp 67), none⟩])))))))
    (.reg [
      ⟨some 68, .move (.tmp 3), none⟩,
      ⟨some 69, .move (.tmp 8), none⟩,
      ⟨some 70, .buildSlice 77 1 #[(0, .tmp 69)], none⟩,
      ⟨some 71, .call { callee := .builtin .append, args := #[.tmp 68, .tmp 70], argTypes := #[77, 77] }, none⟩,
      ⟨some 3, .assign (.tmp 71), none⟩])))))
    (.reg [
      ⟨some 72, .binOp .add 3 (.tmp 37) (.const (.int .i64 1)) 3, none⟩,
      ⟨some 37, .move (.tmp 72), none⟩])))))))
  (.seq
  (.reg [
    ⟨some 73, .move (.tmp 3), none⟩,
    ⟨some 2, .assign (.tmp 73), none⟩])
  .ret)))))
theorem hd62 : Try.f62.body.map dec = some c62 := by kernel_rfl
theorem e62 {R : AV → AH → Prop} {h : AH} (x0 : AV) (H : h.wf → AI Try.prog c62 (RetQ Try.prog [.tmp 2] R) [x0, un, un, un, un, un, un, un, un, un, un, un, un, un, un, un, un, un, un, un, un, un, un, un, un, un, un, un, un, un, un, un, un, un, un, un, un, un, un, un, un, un, un, un, un, un, un, un, un, un, un, un, un, un, un, un, un, un, un, un, un, un, un, un, un, un, un, un, un, un, un, un, un, un] h) : AC Try.prog 62 [x0] h R :=
  AC_of' (rs := [.tmp 2]) Try.func62 (by kernel_rfl) hd62 Try.ntmps62 rfl H

/-- impl.in -/
def c57 : IC :=
  (.seq
  (.reg [
    ⟨some 6, .assign (.const (.bool false)), none⟩])
  (.seq
  (.reg [
    ⟨some 7, .move (.tmp 0), none⟩,
    ⟨some 8, .move (.tmp 1), none⟩,
    ⟨some 9, .binOp .geq 3 (.tmp 7) (.tmp 8) 3, none⟩,
    ⟨some 10, .move (.tmp 9), none⟩,
    ⟨some 11, .move (.tmp 0), some (10, true)⟩,
    ⟨some 12, .move (.tmp 2), some (10, true)⟩,
    ⟨some 13, .binOp .leq 3 (.tmp 11) (.tmp 12) 3, some (10, true)⟩,
    ⟨some 14, .pick (.tmp 10) (.tmp 13) (.const (.bool false)), none⟩,
    ⟨some 6, .assign (.tmp 14), none⟩])
  .ret))
theorem hd57 : Try.f57.body.map dec = some c57 := by kernel_rfl
theorem e57 {R : AV → AH → Prop} {h : AH} (x0 x1 x2 : AV) (H : h.wf → AI Try.prog c57 (RetQ Try.prog [.tmp 6] R) [x0, x1, x2, un, un, un, un, un, un, un, un, un, un, un, un] h) : AC Try.prog 57 [x0, x1, x2] h R :=
  AC_of' (rs := [.tmp 6]) Try.func57 (by kernel_rfl) hd57 Try.ntmps57 rfl H

/-- slices.IndexFunc[[]int,int] -/
def c139 : IC :=
  (.seq
  (.reg [
    ⟨some 4, .assign (.const (.int .i64 0)), none⟩])
  (.seq
  (.seq
  (.reg [
    ⟨some 6, .move (.tmp 0), none⟩,
    ⟨some 7, .call { callee := .builtin .len, args := #[.tmp 6], argTypes := #[25] }, none⟩,
    ⟨some 8, .move (.const (.int .i64 0)), none⟩])
  (.block 0
  (.loop
    (.seq
    (.reg [
      ⟨some 9, .binOp .lss 3 (.tmp 8) (.tmp 7) 3, none⟩])
    (.seq
    (.cond (.tmp 9)
      .skip
      (.exit 0))
    (.seq
    (.block 1
    (.seq
    (.reg [
      ⟨some 10, .move (.tmp 8), none⟩,
      ⟨some 5, .assign (.tmp 10), none⟩])
    (.seq
    (.reg [
      ⟨some 11, .move (.tmp 1), none⟩,
      ⟨some 12, .move (.tmp 0), none⟩,
      ⟨some 13, .move (.tmp 5), none⟩,
      ⟨some 14, .indexAddr 25 (.tmp 12) (.tmp 13), none⟩,
      ⟨some 15, .load 3 (.tmp 14), none⟩,
      ⟨some 16, .call { callee := .value (.tmp 11), args := #[.tmp 15], argTypes := #[3] }, none⟩])
    (.cond (.tmp 16)
      (.seq
      (.reg [
        ⟨some 17, .move (.tmp 5), none⟩,
        ⟨some 4, .assign (.tmp 17), none⟩])
      .ret)
      .skip))))
    (.reg [
      ⟨some 18, .binOp .add 3 (.tmp 8) (.const (.int .i64 1)) 3, none⟩,
      ⟨some 8, .move (.tmp 18), none⟩])))))))
  (.seq
  (.reg [
    ⟨some 4, .assign (.const (.int .i64 (-1))), none⟩])
  .ret)))
theorem hd139 : Try.f139.body.map dec = some c139 := by kernel_rfl
theorem e139 {R : AV → AH → Prop} {h : AH} (x0 x1 : AV) (H : h.wf → AI Try.prog c139 (RetQ Try.prog [.tmp 4] R) [x0, x1, un, un, un, un, un, un, un, un, un, un, un, un, un, un, un, un, un] h) : AC Try.prog 139 [x0, x1] h R :=
  AC_of' (rs := [.tmp 4]) Try.func139 (by kernel_rfl) hd139 Try.ntmps139 rfl H

/-- slices.ContainsFunc[[]int,int] -/
def c120 : IC :=
  (.seq
  (.reg [
    ⟨some 4, .assign (.const (.bool false)), none⟩])
  (.seq
  (.reg [
    ⟨some 5, .move (.tmp 0), none⟩,
    ⟨some 6, .move (.tmp 1), none⟩,
    ⟨some 7, .call { callee := .value (.func 139), args := #[.tmp 5, .tmp 6], argTypes := #[25, 103] }, none⟩,
    ⟨some 8, .binOp .geq 3 (.tmp 7) (.const (.int .i64 0)) 3, none⟩,
    ⟨some 4, .assign (.tmp 8), none⟩])
  .ret))
theorem hd120 : Try.f120.body.map dec = some c120 := by kernel_rfl
theorem e120 {R : AV → AH → Prop} {h : AH} (x0 x1 : AV) (H : h.wf → AI Try.prog c120 (RetQ Try.prog [.tmp 4] R) [x0, x1, un, un, un, un, un, un, un] h) : AC Try.prog 120 [x0, x1] h R :=
  AC_of' (rs := [.tmp 4]) Try.func120 (by kernel_rfl) hd120 Try.ntmps120 rfl H

noncomputable def rg58_0 : Array Oper := rawAt Try.f58 0
/-- (*impl.Plan).many -/
noncomputable def c58 : IC :=
  (.seq
  (.reg [
    ⟨some 2, .assign (.const (.int .i64 0)), none⟩])
  (.seq
  (.raw (.region 1 rg58_0 true))
  .ret))
theorem hd58 : Try.f58.body.map dec = some c58 := by kernel_rfl
theorem e58 {R : AV → AH → Prop} {h : AH} (x0 : AV) (H : h.wf → AI Try.prog c58 (RetQ Try.prog [.tmp 2] R) [x0, un, un, un, un, un, un, un, un, un, un, un, un] h) : AC Try.prog 58 [x0] h R :=
  AC_of' (rs := [.tmp 2]) Try.func58 (by kernel_rfl) hd58 Try.ntmps58 rfl H
theorem dz58_0 {h0 : AH} {L : List It} {Q : Exit → List AV → List It → Prop} {a : List AV} {id : Nat} (H : LX Try.prog ⟨[], []⟩ h0 L L (.c (⟨some 3, .move (.tmp 0), none⟩, .p) <| .c (⟨some 4, .nilCheck (.tmp 3), none⟩, .p) <| .c (⟨some 5, .fieldAddr 27 (.tmp 4) 0, none⟩, .p) <| .c (⟨some 6, .load 3 (.tmp 5), none⟩, .l) <| .c (⟨some 7, .move (.tmp 0), none⟩, .p) <| .c (⟨some 8, .nilCheck (.tmp 7), none⟩, .p) <| .c (⟨some 9, .fieldAddr 27 (.tmp 8) 1, none⟩, .p) <| .c (⟨some 10, .load 24 (.tmp 9), none⟩, .l) <| .c (⟨some 11, .call { callee := .builtin .len, args := #[.tmp 10], argTypes := #[24] }, none⟩, .p) <| .c (⟨some 12, .binOp .add 3 (.tmp 6) (.tmp 11) 3, none⟩, .p) <| .c (⟨some 2, .assign (.tmp 12), none⟩, .p) <| .n) Q a) : LI Try.prog h0 L (.raw (.region id rg58_0 true)) Q a :=
  LI_draw (.c (0, .p) <| .c (1, .p) <| .c (2, .p) <| .c (3, .l) <| .c (4, .p) <| .c (5, .p) <| .c (6, .p) <| .c (7, .l) <| .c (8, .p) <| .c (9, .p) <| .c (10, .p) <| .n) [] (by kernel_rfl) (by kernel_rfl) (by kernel_rfl) H
theorem dr58_0 (m : Nat) {Q : Exit → List AV → AH → Prop} {a : List AV} {h : AH} {id : Nat} (H : AX Try.prog m h [(⟨some 3, .move (.tmp 0), none⟩, true),
  (⟨some 4, .nilCheck (.tmp 3), none⟩, true),
  (⟨some 5, .fieldAddr 27 (.tmp 4) 0, none⟩, true),
  (⟨some 6, .load 3 (.tmp 5), none⟩, true),
  (⟨some 7, .move (.tmp 0), none⟩, true),
  (⟨some 8, .nilCheck (.tmp 7), none⟩, true),
  (⟨some 9, .fieldAddr 27 (.tmp 8) 1, none⟩, true),
  (⟨some 10, .load 24 (.tmp 9), none⟩, true),
  (⟨some 11, .call { callee := .builtin .len, args := #[.tmp 10], argTypes := #[24] }, none⟩, true),
  (⟨some 12, .binOp .add 3 (.tmp 6) (.tmp 11) 3, none⟩, true),
  (⟨some 2, .assign (.tmp 12), none⟩, true)] (fun a' h' => Q .normal a' h') a h) : AI Try.prog (.raw (.region id rg58_0 true)) Q a h :=
  AI_draw [(0, true), (1, true), (2, true), (3, true), (4, true), (5, true), (6, true), (7, true), (8, true), (9, true), (10, true)] m (by kernel_rfl) (by kernel_rfl) (by kernel_rfl) H

/-- (*impl.Plan).formed$1 -/
def c135 : IC :=
  (.seq
  (.reg [
    ⟨some 3, .assign (.const (.bool false)), none⟩])
  (.seq
  (.reg [
    ⟨some 4, .move (.tmp 0), none⟩,
    ⟨some 5, .load 92 (.tmp 1), none⟩,
    ⟨some 6, .call { callee := .value (.func 58), args := #[.tmp 5], argTypes := #[92] }, none⟩,
    ⟨some 7, .binOp .sub 3 (.tmp 6) (.const (.int .i64 1)) 3, none⟩,
    ⟨some 8, .call { callee := .value (.func 57), args := #[.tmp 4, .const (.int .i64 0), .tmp 7], argTypes := #[3, 3, 3] }, none⟩,
    ⟨some 9, .unOp .not 4 (.tmp 8), none⟩,
    ⟨some 3, .assign (.tmp 9), none⟩])
  .ret))
theorem hd135 : Try.f135.body.map dec = some c135 := by kernel_rfl
theorem e135 {R : AV → AH → Prop} {h : AH} (x0 x1 : AV) (H : h.wf → AI Try.prog c135 (RetQ Try.prog [.tmp 3] R) [x0, x1, un, un, un, un, un, un, un, un] h) : AC Try.prog 135 [x0, x1] h R :=
  AC_of' (rs := [.tmp 3]) Try.func135 (by kernel_rfl) hd135 Try.ntmps135 rfl H

noncomputable def rg110_0 : Array Oper := rawAt Try.f110 0
-- NO ORDER
/-- (*impl.Plan).formed -/
noncomputable def c110 : IC :=
  (.seq
  (.reg [
    ⟨some 1, .box 92 (.tmp 0), none⟩,
    ⟨some 2, .assign (.const (.bool false)), none⟩])
  (.seq
  (.seq
  (.reg [
    ⟨some 5, .load 92 (.tmp 1), none⟩,
    ⟨some 6, .nilCheck (.tmp 5), none⟩,
    ⟨some 7, .fieldAddr 27 (.tmp 6) 0, none⟩,
    ⟨some 8, .load 3 (.tmp 7), none⟩,
    ⟨some 9, .call { callee := .value (.func 57), args := #[.tmp 8, .const (.int .i64 1), .const (.int .i64 6)], argTypes := #[3, 3, 3] }, none⟩,
    ⟨some 10, .unOp .not 4 (.tmp 9), none⟩,
    ⟨some 11, .move (.tmp 10), none⟩,
    ⟨some 12, .load 92 (.tmp 1), some (11, false)⟩,
    ⟨some 13, .nilCheck (.tmp 12), some (11, false)⟩,
    ⟨some 14, .fieldAddr 27 (.tmp 13) 1, some (11, false)⟩,
    ⟨some 15, .load 24 (.tmp 14), some (11, false)⟩,
    ⟨some 16, .call { callee := .builtin .len, args := #[.tmp 15], argTypes := #[24] }, some (11, false)⟩,
    ⟨some 17, .binOp .gtr 3 (.tmp 16) (.const (.int .i64 40)) 3, some (11, false)⟩,
    ⟨some 18, .pick (.tmp 11) (.const (.bool true)) (.tmp 17), none⟩,
    ⟨some 19, .move (.tmp 18), none⟩,
    ⟨some 20, .load 92 (.tmp 1), some (19, false)⟩,
    ⟨some 21, .nilCheck (.tmp 20), some (19, false)⟩,
    ⟨some 22, .fieldAddr 27 (.tmp 21) 2, some (19, false)⟩,
    ⟨some 23, .load 25 (.tmp 22), some (19, false)⟩,
    ⟨some 24, .call { callee := .builtin .len, args := #[.tmp 23], argTypes := #[25] }, some (19, false)⟩,
    ⟨some 25, .binOp .gtr 3 (.tmp 24) (.const (.int .i64 6)) 3, some (19, false)⟩,
    ⟨some 26, .pick (.tmp 19) (.const (.bool true)) (.tmp 25), none⟩])
  (.cond (.tmp 26)
    (.seq
    (.reg [
      ⟨some 2, .assign (.const (.bool false)), none⟩])
    .ret)
    .skip))
  (.seq
  (.seq
  (.reg [
    ⟨some 27, .load 92 (.tmp 1), none⟩,
    ⟨some 28, .nilCheck (.tmp 27), none⟩,
    ⟨some 29, .fieldAddr 27 (.tmp 28) 1, none⟩,
    ⟨some 30, .load 24 (.tmp 29), none⟩,
    ⟨some 31, .call { callee := .builtin .len, args := #[.tmp 30], argTypes := #[24] }, none⟩,
    ⟨some 32, .move (.const (.int .i64 0)), none⟩])
  (.block 0
  (.loop
    (.seq
    (.reg [
      ⟨some 33, .binOp .lss 3 (.tmp 32) (.tmp 31) 3, none⟩])
    (.seq
    (.cond (.tmp 33)
      .skip
      (.exit 0))
    (.seq
    (.block 1
    (.seq
    (.reg [
      ⟨some 34, .move (.tmp 32), none⟩,
      ⟨some 35, .indexAddr 24 (.tmp 30) (.tmp 32), none⟩,
      ⟨some 36, .load 35 (.tmp 35), none⟩,
      ⟨some 4, .alloc 35, none⟩,
      ⟨some 3, .assign (.tmp 34), none⟩,
      ⟨none, .store 35 (.tmp 4) (.tmp 36), none⟩])
    (.seq
    (.raw (.region 6 rg110_0 true))
    (.cond (.tmp 57)
      (.seq
      (.reg [
        ⟨some 2, .assign (.const (.bool false)), none⟩])
      .ret)
      .skip))))
    (.reg [
      ⟨some 58, .binOp .add 3 (.tmp 32) (.const (.int .i64 1)) 3, none⟩,
      ⟨some 32, .move (.tmp 58), none⟩])))))))
  (.seq
  (.reg [
    ⟨some 59, .load 92 (.tmp 1), none⟩,
    ⟨some 60, .nilCheck (.tmp 59), none⟩,
    ⟨some 61, .fieldAddr 27 (.tmp 60) 2, none⟩,
    ⟨some 62, .load 25 (.tmp 61), none⟩,
    ⟨some 63, .makeFunc (.func 135) #[] #[.tmp 1], none⟩,
    ⟨some 64, .call { callee := .value (.func 120), args := #[.tmp 62, .tmp 63], argTypes := #[25, 103] }, none⟩,
    ⟨some 65, .unOp .not 4 (.tmp 64), none⟩,
    ⟨some 2, .assign (.tmp 65), none⟩])
  .ret))))
theorem hd110 : Try.f110.body.map dec = some c110 := by kernel_rfl
theorem e110 {R : AV → AH → Prop} {h : AH} (x0 : AV) (H : h.wf → AI Try.prog c110 (RetQ Try.prog [.tmp 2] R) [x0, un, un, un, un, un, un, un, un, un, un, un, un, un, un, un, un, un, un, un, un, un, un, un, un, un, un, un, un, un, un, un, un, un, un, un, un, un, un, un, un, un, un, un, un, un, un, un, un, un, un, un, un, un, un, un, un, un, un, un, un, un, un, un, un, un] h) : AC Try.prog 110 [x0] h R :=
  AC_of' (rs := [.tmp 2]) Try.func110 (by kernel_rfl) hd110 Try.ntmps110 rfl H
theorem dz110_0 {h0 : AH} {L : List It} {Q : Exit → List AV → List It → Prop} {a : List AV} {id : Nat} (H : LX Try.prog ⟨[], []⟩ h0 L L (.c (⟨some 37, .fieldAddr 35 (.tmp 4) 0, none⟩, .p) <| .c (⟨some 38, .load 3 (.tmp 37), none⟩, .l) <| .c (⟨some 39, .binOp .lss 3 (.tmp 38) (.const (.int .i64 0)) 3, none⟩, .p) <| .c (⟨some 40, .move (.tmp 39), none⟩, .p) <| .c (⟨some 41, .fieldAddr 35 (.tmp 4) 0, some (40, false)⟩, .p) <| .c (⟨some 42, .load 3 (.tmp 41), some (40, false)⟩, .l) <| .c (⟨some 43, .fieldAddr 35 (.tmp 4) 1, some (40, false)⟩, .p) <| .c (⟨some 44, .load 3 (.tmp 43), some (40, false)⟩, .l) <| .c (⟨some 45, .binOp .gtr 3 (.tmp 42) (.tmp 44) 3, some (40, false)⟩, .p) <| .c (⟨some 46, .pick (.tmp 40) (.const (.bool true)) (.tmp 45), none⟩, .p) <| .c (⟨some 47, .move (.tmp 46), none⟩, .p) <| .c (⟨some 48, .fieldAddr 35 (.tmp 4) 1, some (47, false)⟩, .p) <| .c (⟨some 49, .load 3 (.tmp 48), some (47, false)⟩, .l) <| .c (⟨some 50, .load 92 (.tmp 1), some (47, false)⟩, .l) <| .c (⟨some 51, .nilCheck (.tmp 50), some (47, false)⟩, .p) <| .c (⟨some 52, .fieldAddr 27 (.tmp 51) 0, some (47, false)⟩, .p) <| .c (⟨some 53, .load 3 (.tmp 52), some (47, false)⟩, .l) <| .c (⟨some 54, .move (.tmp 3), some (47, false)⟩, .p) <| .c (⟨some 55, .binOp .add 3 (.tmp 53) (.tmp 54) 3, some (47, false)⟩, .p) <| .c (⟨some 56, .binOp .geq 3 (.tmp 49) (.tmp 55) 3, some (47, false)⟩, .p) <| .c (⟨some 57, .pick (.tmp 47) (.const (.bool true)) (.tmp 56), none⟩, .p) <| .n) Q a) : LI Try.prog h0 L (.raw (.region id rg110_0 true)) Q a :=
  LI_draw (.c (0, .p) <| .c (1, .l) <| .c (2, .p) <| .c (3, .p) <| .c (4, .p) <| .c (5, .l) <| .c (6, .p) <| .c (7, .l) <| .c (8, .p) <| .c (9, .p) <| .c (10, .p) <| .c (11, .p) <| .c (12, .l) <| .c (13, .l) <| .c (14, .p) <| .c (15, .p) <| .c (16, .l) <| .c (17, .p) <| .c (18, .p) <| .c (19, .p) <| .c (20, .p) <| .n) [] (by kernel_rfl) (by kernel_rfl) (by kernel_rfl) H

/-- slices.IndexFunc[[][]int,[]int] -/
def c136 : IC :=
  (.seq
  (.reg [
    ⟨some 4, .assign (.const (.int .i64 0)), none⟩])
  (.seq
  (.seq
  (.reg [
    ⟨some 6, .move (.tmp 0), none⟩,
    ⟨some 7, .call { callee := .builtin .len, args := #[.tmp 6], argTypes := #[77] }, none⟩,
    ⟨some 8, .move (.const (.int .i64 0)), none⟩])
  (.block 0
  (.loop
    (.seq
    (.reg [
      ⟨some 9, .binOp .lss 3 (.tmp 8) (.tmp 7) 3, none⟩])
    (.seq
    (.cond (.tmp 9)
      .skip
      (.exit 0))
    (.seq
    (.block 1
    (.seq
    (.reg [
      ⟨some 10, .move (.tmp 8), none⟩,
      ⟨some 5, .assign (.tmp 10), none⟩])
    (.seq
    (.reg [
      ⟨some 11, .move (.tmp 1), none⟩,
      ⟨some 12, .move (.tmp 0), none⟩,
      ⟨some 13, .move (.tmp 5), none⟩,
      ⟨some 14, .indexAddr 77 (.tmp 12) (.tmp 13), none⟩,
      ⟨some 15, .load 25 (.tmp 14), none⟩,
      ⟨some 16, .call { callee := .value (.tmp 11), args := #[.tmp 15], argTypes := #[25] }, none⟩])
    (.cond (.tmp 16)
      (.seq
      (.reg [
        ⟨some 17, .move (.tmp 5), none⟩,
        ⟨some 4, .assign (.tmp 17), none⟩])
      .ret)
      .skip))))
    (.reg [
      ⟨some 18, .binOp .add 3 (.tmp 8) (.const (.int .i64 1)) 3, none⟩,
      ⟨some 8, .move (.tmp 18), none⟩])))))))
  (.seq
  (.reg [
    ⟨some 4, .assign (.const (.int .i64 (-1))), none⟩])
  .ret)))
theorem hd136 : Try.f136.body.map dec = some c136 := by kernel_rfl
theorem e136 {R : AV → AH → Prop} {h : AH} (x0 x1 : AV) (H : h.wf → AI Try.prog c136 (RetQ Try.prog [.tmp 4] R) [x0, x1, un, un, un, un, un, un, un, un, un, un, un, un, un, un, un, un, un] h) : AC Try.prog 136 [x0, x1] h R :=
  AC_of' (rs := [.tmp 4]) Try.func136 (by kernel_rfl) hd136 Try.ntmps136 rfl H

/-- slices.ContainsFunc[[][]int,[]int] -/
def c111 : IC :=
  (.seq
  (.reg [
    ⟨some 4, .assign (.const (.bool false)), none⟩])
  (.seq
  (.reg [
    ⟨some 5, .move (.tmp 0), none⟩,
    ⟨some 6, .move (.tmp 1), none⟩,
    ⟨some 7, .call { callee := .value (.func 136), args := #[.tmp 5, .tmp 6], argTypes := #[77, 118] }, none⟩,
    ⟨some 8, .binOp .geq 3 (.tmp 7) (.const (.int .i64 0)) 3, none⟩,
    ⟨some 4, .assign (.tmp 8), none⟩])
  .ret))
theorem hd111 : Try.f111.body.map dec = some c111 := by kernel_rfl
theorem e111 {R : AV → AH → Prop} {h : AH} (x0 x1 : AV) (H : h.wf → AI Try.prog c111 (RetQ Try.prog [.tmp 4] R) [x0, x1, un, un, un, un, un, un, un] h) : AC Try.prog 111 [x0, x1] h R :=
  AC_of' (rs := [.tmp 4]) Try.func111 (by kernel_rfl) hd111 Try.ntmps111 rfl H

/-- slices.Max[[]int,int] -/
def c113 : IC :=
  (.seq
  (.reg [
    ⟨some 2, .assign (.const (.int .i64 0)), none⟩])
  (.seq
  (.seq
  (.reg [
    ⟨some 5, .move (.tmp 0), none⟩,
    ⟨some 6, .call { callee := .builtin .len, args := #[.tmp 5], argTypes := #[25] }, none⟩,
    ⟨some 7, .binOp .lss 3 (.tmp 6) (.const (.int .i64 1)) 3, none⟩])
  (.cond (.tmp 7)
    (.reg [
      ⟨some 8, .makeInterface 9 (.const (.string { data := #[115, 108, 105, 99, 101, 115, 46, 77, 97, 120, 58, 32, 101, 109, 112, 116, 121, 32, 108, 105, 115, 116] })), none⟩,
      ⟨none, .panic (.tmp 8), none⟩])
    .skip))
  (.seq
  (.reg [
    ⟨some 9, .move (.tmp 0), none⟩,
    ⟨some 10, .indexAddr 25 (.tmp 9) (.const (.int .i64 0)), none⟩,
    ⟨some 11, .load 3 (.tmp 10), none⟩,
    ⟨some 3, .assign (.tmp 11), none⟩])
  (.seq
  (.seq
  (.reg [
    ⟨some 4, .assign (.const (.int .i64 1)), none⟩])
  (.block 0
  (.loop
    (.seq
    (.seq
    (.reg [
      ⟨some 12, .move (.tmp 4), none⟩,
      ⟨some 13, .move (.tmp 0), none⟩,
      ⟨some 14, .call { callee := .builtin .len, args := #[.tmp 13], argTypes := #[25] }, none⟩,
      ⟨some 15, .binOp .lss 3 (.tmp 12) (.tmp 14) 3, none⟩])
    (.cond (.tmp 15)
      .skip
      (.exit 0)))
    (.seq
    (.block 1
    (.reg [
      ⟨some 18, .move (.tmp 3), none⟩,
      ⟨some 19, .move (.tmp 0), none⟩,
      ⟨some 20, .move (.tmp 4), none⟩,
      ⟨some 21, .indexAddr 25 (.tmp 19) (.tmp 20), none⟩,
      ⟨some 22, .load 3 (.tmp 21), none⟩,
      ⟨some 23, .call { callee := .builtin .max, args := #[.tmp 18, .tmp 22], argTypes := #[3, 3] }, none⟩,
      ⟨some 3, .assign (.tmp 23), none⟩]))
    (.reg [
      ⟨some 16, .move (.tmp 4), none⟩,
      ⟨some 17, .binOp .add 3 (.tmp 16) (.const (.int .i64 1)) 3, none⟩,
      ⟨some 4, .assign (.tmp 17), none⟩]))))))
  (.seq
  (.reg [
    ⟨some 24, .move (.tmp 3), none⟩,
    ⟨some 2, .assign (.tmp 24), none⟩])
  .ret)))))
theorem hd113 : Try.f113.body.map dec = some c113 := by kernel_rfl
theorem e113 {R : AV → AH → Prop} {h : AH} (x0 : AV) (H : h.wf → AI Try.prog c113 (RetQ Try.prog [.tmp 2] R) [x0, un, un, un, un, un, un, un, un, un, un, un, un, un, un, un, un, un, un, un, un, un, un, un, un] h) : AC Try.prog 113 [x0] h R :=
  AC_of' (rs := [.tmp 2]) Try.func113 (by kernel_rfl) hd113 Try.ntmps113 rfl H

/-- impl.IsPlan$1 -/
def c112 : IC :=
  (.seq
  (.reg [
    ⟨some 2, .assign (.const (.bool false)), none⟩])
  (.seq
  (.reg [
    ⟨some 3, .move (.tmp 0), none⟩,
    ⟨some 4, .call { callee := .value (.func 113), args := #[.tmp 3], argTypes := #[25] }, none⟩,
    ⟨some 5, .binOp .gtr 3 (.tmp 4) (.const (.int .i64 1000000)) 3, none⟩,
    ⟨some 2, .assign (.tmp 5), none⟩])
  .ret))
theorem hd112 : Try.f112.body.map dec = some c112 := by kernel_rfl
theorem e112 {R : AV → AH → Prop} {h : AH} (x0 : AV) (H : h.wf → AI Try.prog c112 (RetQ Try.prog [.tmp 2] R) [x0, un, un, un, un, un] h) : AC Try.prog 112 [x0] h R :=
  AC_of' (rs := [.tmp 2]) Try.func112 (by kernel_rfl) hd112 Try.ntmps112 rfl H

/-- impl.IsPlan -/
def c56 : IC :=
  (.seq
  (.reg [
    ⟨some 1, .box 27 (.tmp 0), none⟩,
    ⟨some 2, .assign (.const (.bool false)), none⟩])
  (.seq
  (.reg [
    ⟨some 3, .call { callee := .value (.func 110), args := #[.tmp 1], argTypes := #[27] }, none⟩,
    ⟨some 4, .move (.tmp 3), none⟩,
    ⟨some 5, .call { callee := .value (.func 62), args := #[.tmp 1], argTypes := #[27] }, some (4, true)⟩,
    ⟨some 6, .call { callee := .value (.func 111), args := #[.tmp 5, .func 112], argTypes := #[77, 118] }, some (4, true)⟩,
    ⟨some 7, .unOp .not 4 (.tmp 6), some (4, true)⟩,
    ⟨some 8, .pick (.tmp 4) (.tmp 7) (.const (.bool false)), none⟩,
    ⟨some 2, .assign (.tmp 8), none⟩])
  .ret))
theorem hd56 : Try.f56.body.map dec = some c56 := by kernel_rfl
theorem e56 {R : AV → AH → Prop} {h : AH} (x0 : AV) (H : h.wf → AI Try.prog c56 (RetQ Try.prog [.tmp 2] R) [x0, un, un, un, un, un, un, un, un] h) : AC Try.prog 56 [x0] h R :=
  AC_of' (rs := [.tmp 2]) Try.func56 (by kernel_rfl) hd56 Try.ntmps56 rfl H

noncomputable def rg17_0 : Array Oper := rawAt Try.f17 0
/-- impl.CountPaths -/
noncomputable def c17 : IC :=
  (.seq
  (.reg [
    ⟨some 3, .box 27 (.tmp 0), none⟩,
    ⟨some 6, .assign (.const (.int .i64 0)), none⟩,
    ⟨some 7, .assign (.const (.bool false)), none⟩])
  (.seq
  (.seq
  (.reg [
    ⟨some 11, .load 27 (.tmp 3), none⟩,
    ⟨some 12, .call { callee := .value (.func 56), args := #[.tmp 11], argTypes := #[27] }, none⟩,
    ⟨some 13, .unOp .not 4 (.tmp 12), none⟩,
    ⟨some 14, .move (.tmp 13), none⟩,
    ⟨some 15, .move (.tmp 1), some (14, false)⟩,
    ⟨some 16, .call { callee := .value (.func 58), args := #[.tmp 3], argTypes := #[27] }, some (14, false)⟩,
    ⟨some 17, .binOp .sub 3 (.tmp 16) (.const (.int .i64 1)) 3, some (14, false)⟩,
    ⟨some 18, .call { callee := .value (.func 57), args := #[.tmp 15, .const (.int .i64 0), .tmp 17], argTypes := #[3, 3, 3] }, some (14, false)⟩,
    ⟨some 19, .unOp .not 4 (.tmp 18), some (14, false)⟩,
    ⟨some 20, .pick (.tmp 14) (.const (.bool true)) (.tmp 19), none⟩,
    ⟨some 21, .move (.tmp 20), none⟩,
    ⟨some 22, .move (.tmp 2), some (21, false)⟩,
    ⟨some 23, .call { callee := .value (.func 58), args := #[.tmp 3], argTypes := #[27] }, some (21, false)⟩,
    ⟨some 24, .binOp .sub 3 (.tmp 23) (.const (.int .i64 1)) 3, some (21, false)⟩,
    ⟨some 25, .call { callee := .value (.func 57), args := #[.tmp 22, .const (.int .i64 0), .tmp 24], argTypes := #[3, 3, 3] }, some (21, false)⟩,
    ⟨some 26, .unOp .not 4 (.tmp 25), some (21, false)⟩,
    ⟨some 27, .pick (.tmp 21) (.const (.bool true)) (.tmp 26), none⟩])
  (.cond (.tmp 27)
    (.seq
    (.reg [
      ⟨some 6, .assign (.const (.int .i64 0)), none⟩,
      ⟨some 7, .assign (.const (.bool false)), none⟩])
    .ret)
    .skip))
  (.seq
  (.reg [
    ⟨some 28, .call { callee := .value (.func 58), args := #[.tmp 3], argTypes := #[27] }, none⟩,
    ⟨some 29, .makeSlice 25 (.tmp 28) (.tmp 28), none⟩,
    ⟨some 8, .assign (.tmp 29), none⟩])
  (.seq
  (.reg [
    ⟨some 30, .move (.tmp 8), none⟩,
    ⟨some 31, .move (.tmp 1), none⟩,
    ⟨some 32, .indexAddr 25 (.tmp 30) (.tmp 31), none⟩,
    ⟨none, .store 3 (.tmp 32) (.const (.int .i64 1)), none⟩])
  (.seq
  (.seq
  (.reg [
    ⟨some 33, .fieldAddr 27 (.tmp 3) 1, none⟩,
    ⟨some 34, .load 24 (.tmp 33), none⟩,
    ⟨some 35, .call { callee := .builtin .len, args := #[.tmp 34], argTypes := #[24] }, none⟩,
    ⟨some 36, .move (.const (.int .i64 0)), none⟩])
  (.block 0
  (.loop
    (.seq
    (.reg [
      ⟨some 37, .binOp .lss 3 (.tmp 36) (.tmp 35) 3, none⟩])
    (.seq
    (.cond (.tmp 37)
      .skip
      (.exit 0))
    (.seq
    (.block 1
    (.seq
    (.reg [
      ⟨some 38, .move (.tmp 36), none⟩,
      ⟨some 39, .indexAddr 24 (.tmp 34) (.tmp 36), none⟩,
      ⟨some 40, .load 35 (.tmp 39), none⟩,
      ⟨some 10, .alloc 35, none⟩,
      ⟨some 9, .assign (.tmp 38), none⟩,
      ⟨none, .store 35 (.tmp 10) (.tmp 40), none⟩])
    (.raw (.region 8 rg17_0 true))))
    (.reg [
      ⟨some 61, .binOp .add 3 (.tmp 36) (.const (.int .i64 1)) 3, none⟩,
      ⟨some 36, .move (.tmp 61), none⟩])))))))
  (.seq
  (.reg [
    ⟨some 62, .move (.tmp 8), none⟩,
    ⟨some 63, .move (.tmp 2), none⟩,
    ⟨some 64, .indexAddr 25 (.tmp 62) (.tmp 63), none⟩,
    ⟨some 65, .load 3 (.tmp 64), none⟩,
    ⟨some 6, .assign (.tmp 65), none⟩,
    ⟨some 7, .assign (.const (.bool true)), none⟩])
  .ret))))))
theorem hd17 : Try.f17.body.map dec = some c17 := by kernel_rfl
theorem e17 {R : AV → AH → Prop} {h : AH} (x0 x1 x2 : AV) (H : h.wf → AI Try.prog c17 (RetQ Try.prog [.tmp 6, .tmp 7] R) [x0, x1, x2, un, un, un, un, un, un, un, un, un, un, un, un, un, un, un, un, un, un, un, un, un, un, un, un, un, un, un, un, un, un, un, un, un, un, un, un, un, un, un, un, un, un, un, un, un, un, un, un, un, un, un, un, un, un, un, un, un, un, un, un, un, un, un] h) : AC Try.prog 17 [x0, x1, x2] h R :=
  AC_of' (rs := [.tmp 6, .tmp 7]) Try.func17 (by kernel_rfl) hd17 Try.ntmps17 rfl H
theorem dz17_0 {h0 : AH} {L : List It} {Q : Exit → List AV → List It → Prop} {a : List AV} {id : Nat} (H : LX Try.prog ⟨[20], []⟩ h0 L L (.c (⟨some 41, .move (.tmp 8), none⟩, .p) <| .c (⟨some 42, .fieldAddr 27 (.tmp 3) 0, none⟩, .p) <| .c (⟨some 43, .load 3 (.tmp 42), none⟩, .l) <| .c (⟨some 44, .move (.tmp 9), none⟩, .p) <| .c (⟨some 45, .binOp .add 3 (.tmp 43) (.tmp 44) 3, none⟩, .p) <| .c (⟨some 46, .indexAddr 25 (.tmp 41) (.tmp 45), none⟩, .p) <| .c (⟨some 47, .load 3 (.tmp 46), none⟩, .l) <| .c (⟨some 48, .move (.tmp 8), none⟩, .p) <| .c (⟨some 49, .fieldAddr 35 (.tmp 10) 0, none⟩, .p) <| .c (⟨some 50, .load 3 (.tmp 49), none⟩, .l) <| .c (⟨some 51, .indexAddr 25 (.tmp 48) (.tmp 50), none⟩, .p) <| .c (⟨some 52, .load 3 (.tmp 51), none⟩, .l) <| .c (⟨some 53, .move (.tmp 8), none⟩, .p) <| .c (⟨some 54, .fieldAddr 35 (.tmp 10) 1, none⟩, .p) <| .c (⟨some 55, .load 3 (.tmp 54), none⟩, .l) <| .c (⟨some 56, .indexAddr 25 (.tmp 53) (.tmp 55), none⟩, .p) <| .c (⟨some 57, .load 3 (.tmp 56), none⟩, .l) <| .c (⟨some 58, .binOp .add 3 (.tmp 52) (.tmp 57) 3, none⟩, .p) <| .c (⟨some 59, .binOp .add 3 (.tmp 47) (.tmp 58) 3, none⟩, .p) <| .c (⟨some 60, .indexAddr 25 (.tmp 41) (.tmp 45), none⟩, .p) <| .c (⟨none, .store 3 (.tmp 60) (.tmp 59), none⟩, .f) <| .n) Q a) : LI Try.prog h0 L (.raw (.region id rg17_0 true)) Q a :=
  LI_draw (.c (0, .p) <| .c (1, .p) <| .c (2, .l) <| .c (3, .p) <| .c (4, .p) <| .c (5, .p) <| .c (6, .l) <| .c (7, .p) <| .c (8, .p) <| .c (9, .l) <| .c (10, .p) <| .c (11, .l) <| .c (12, .p) <| .c (13, .p) <| .c (14, .l) <| .c (15, .p) <| .c (16, .l) <| .c (17, .p) <| .c (18, .p) <| .c (19, .p) <| .c (20, .f) <| .n) [20] (by kernel_rfl) (by kernel_rfl) (by kernel_rfl) H
theorem dr17_0 (m : Nat) {Q : Exit → List AV → AH → Prop} {a : List AV} {h : AH} {id : Nat} (H : AX Try.prog m h [(⟨some 41, .move (.tmp 8), none⟩, true),
  (⟨some 42, .fieldAddr 27 (.tmp 3) 0, none⟩, true),
  (⟨some 43, .load 3 (.tmp 42), none⟩, true),
  (⟨some 44, .move (.tmp 9), none⟩, true),
  (⟨some 45, .binOp .add 3 (.tmp 43) (.tmp 44) 3, none⟩, true),
  (⟨some 46, .indexAddr 25 (.tmp 41) (.tmp 45), none⟩, true),
  (⟨some 47, .load 3 (.tmp 46), none⟩, true),
  (⟨some 48, .move (.tmp 8), none⟩, true),
  (⟨some 49, .fieldAddr 35 (.tmp 10) 0, none⟩, true),
  (⟨some 50, .load 3 (.tmp 49), none⟩, true),
  (⟨some 51, .indexAddr 25 (.tmp 48) (.tmp 50), none⟩, true),
  (⟨some 52, .load 3 (.tmp 51), none⟩, true),
  (⟨some 53, .move (.tmp 8), none⟩, true),
  (⟨some 54, .fieldAddr 35 (.tmp 10) 1, none⟩, true),
  (⟨some 55, .load 3 (.tmp 54), none⟩, true),
  (⟨some 56, .indexAddr 25 (.tmp 53) (.tmp 55), none⟩, true),
  (⟨some 57, .load 3 (.tmp 56), none⟩, true),
  (⟨some 58, .binOp .add 3 (.tmp 52) (.tmp 57) 3, none⟩, true),
  (⟨some 59, .binOp .add 3 (.tmp 47) (.tmp 58) 3, none⟩, true),
  (⟨some 60, .indexAddr 25 (.tmp 41) (.tmp 45), none⟩, true),
  (⟨none, .store 3 (.tmp 60) (.tmp 59), none⟩, false)] (fun a' h' => Q .normal a' h') a h) : AI Try.prog (.raw (.region id rg17_0 true)) Q a h :=
  AI_draw [(0, true), (1, true), (2, true), (3, true), (4, true), (5, true), (6, true), (7, true), (8, true), (9, true), (10, true), (11, true), (12, true), (13, true), (14, true), (15, true), (16, true), (17, true), (18, true), (19, true), (20, false)] m (by kernel_rfl) (by kernel_rfl) (by kernel_rfl) H

/-- spec.l1In -/
def c60 : IC :=
  (.seq
  (.reg [
    ⟨some 6, .assign (.const (.bool false)), none⟩])
  (.seq
  (.reg [
    ⟨some 7, .move (.tmp 0), none⟩,
    ⟨some 8, .move (.tmp 1), none⟩,
    ⟨some 9, .binOp .geq 3 (.tmp 7) (.tmp 8) 3, none⟩,
    ⟨some 10, .move (.tmp 9), none⟩,
    ⟨some 11, .move (.tmp 0), some (10, true)⟩,
    ⟨some 12, .move (.tmp 2), some (10, true)⟩,
    ⟨some 13, .binOp .leq 3 (.tmp 11) (.tmp 12) 3, some (10, true)⟩,
    ⟨some 14, .pick (.tmp 10) (.tmp 13) (.const (.bool false)), none⟩,
    ⟨some 6, .assign (.tmp 14), none⟩])
  .ret))
theorem hd60 : Try.f60.body.map dec = some c60 := by kernel_rfl
theorem e60 {R : AV → AH → Prop} {h : AH} (x0 x1 x2 : AV) (H : h.wf → AI Try.prog c60 (RetQ Try.prog [.tmp 6] R) [x0, x1, x2, un, un, un, un, un, un, un, un, un, un, un, un] h) : AC Try.prog 60 [x0, x1, x2] h R :=
  AC_of' (rs := [.tmp 6]) Try.func60 (by kernel_rfl) hd60 Try.ntmps60 rfl H

/-- spec.l1All -/
def c81 : IC :=
  (.seq
  (.reg [
    ⟨some 6, .assign (.const (.bool false)), none⟩])
  (.seq
  (.seq
  (.reg [
    ⟨some 9, .move (.tmp 0), none⟩,
    ⟨some 10, .call { callee := .builtin .len, args := #[.tmp 9], argTypes := #[25] }, none⟩,
    ⟨some 11, .move (.const (.int .i64 0)), none⟩])
  (.block 0
  (.loop
    (.seq
    (.reg [
      ⟨some 12, .binOp .lss 3 (.tmp 11) (.tmp 10) 3, none⟩])
    (.seq
    (.cond (.tmp 12)
      .skip
      (.exit 0))
    (.seq
    (.block 1
    (.seq
    (.reg [
      ⟨some 13, .indexAddr 25 (.tmp 9) (.tmp 11), none⟩,
      ⟨some 14, .load 3 (.tmp 13), none⟩,
      ⟨some 8, .assign (.tmp 14), none⟩])
    (.seq
    (.reg [
      ⟨some 15, .move (.tmp 8), none⟩,
      ⟨some 16, .move (.tmp 1), none⟩,
      ⟨some 17, .move (.tmp 2), none⟩,
      ⟨some 18, .call { callee := .value (.func 60), args := #[.tmp 15, .tmp 16, .tmp 17], argTypes := #[3, 3, 3] }, none⟩,
      ⟨some 19, .unOp .not 4 (.tmp 18), none⟩])
    (.cond (.tmp 19)
      (.seq
      (.reg [
        ⟨some 6, .assign (.const (.bool false)), none⟩])
      .ret)
      .skip))))
    (.reg [
      ⟨some 20, .binOp .add 3 (.tmp 11) (.const (.int .i64 1)) 3, none⟩,
      ⟨some 11, .move (.tmp 20), none⟩])))))))
  (.seq
  (.reg [
    ⟨some 6, .assign (.const (.bool true)), none⟩])
  .ret)))
theorem hd81 : Try.f81.body.map dec = some c81 := by kernel_rfl
theorem e81 {R : AV → AH → Prop} {h : AH} (x0 x1 x2 : AV) (H : h.wf → AI Try.prog c81 (RetQ Try.prog [.tmp 6] R) [x0, x1, x2, un, un, un, un, un, un, un, un, un, un, un, un, un, un, un, un, un, un] h) : AC Try.prog 81 [x0, x1, x2] h R :=
  AC_of' (rs := [.tmp 6]) Try.func81 (by kernel_rfl) hd81 Try.ntmps81 rfl H

noncomputable def rg137_0 : Array Oper := rawAt Try.f137 0
/-- spec.plSum -/
noncomputable def c137 : IC :=
  (.seq
  (.reg [
    ⟨some 4, .assign (.const (.slice none 0 0)), none⟩])
  (.seq
  (.reg [
    ⟨some 5, .assign (.const (.slice none 0 0)), none⟩])
  (.seq
  (.seq
  (.reg [
    ⟨some 7, .move (.tmp 0), none⟩,
    ⟨some 8, .call { callee := .builtin .len, args := #[.tmp 7], argTypes := #[25] }, none⟩,
    ⟨some 9, .move (.const (.int .i64 0)), none⟩])
  (.block 0
  (.loop
    (.seq
    (.reg [
      ⟨some 10, .binOp .lss 3 (.tmp 9) (.tmp 8) 3, none⟩])
    (.seq
    (.cond (.tmp 10)
      .skip
      (.exit 0))
    (.seq
    (.block 1
    (.seq
    (.reg [
      ⟨some 11, .move (.tmp 9), none⟩,
      ⟨some 6, .assign (.tmp 11), none⟩])
    (.raw (.region 5 rg137_0 true))))
    (.reg [
      ⟨some 25, .binOp .add 3 (.tmp 9) (.const (.int .i64 1)) 3, none⟩,
      ⟨some 9, .move (.tmp 25), none⟩])))))))
  (.seq
  (.reg [
    ⟨some 26, .move (.tmp 5), none⟩,
    ⟨some 4, .assign (.tmp 26), none⟩])
  .ret))))
theorem hd137 : Try.f137.body.map dec = some c137 := by kernel_rfl
theorem e137 {R : AV → AH → Prop} {h : AH} (x0 x1 : AV) (H : h.wf → AI Try.prog c137 (RetQ Try.prog [.tmp 4] R) [x0, x1, un, un, un, un, un, un, un, un, un, un, un, un, un, un, un, un, un, un, un, un, un, un, un, un, un] h) : AC Try.prog 137 [x0, x1] h R :=
  AC_of' (rs := [.tmp 4]) Try.func137 (by kernel_rfl) hd137 Try.ntmps137 rfl H
theorem dz137_0 {h0 : AH} {L : List It} {Q : Exit → List AV → List It → Prop} {a : List AV} {id : Nat} (H : LX Try.prog ⟨[12], []⟩ h0 L L (.c (⟨some 12, .move (.tmp 5), none⟩, .p) <| .c (⟨some 13, .move (.tmp 0), none⟩, .p) <| .c (⟨some 14, .move (.tmp 6), none⟩, .p) <| .c (⟨some 15, .indexAddr 25 (.tmp 13) (.tmp 14), none⟩, .p) <| .c (⟨some 16, .load 3 (.tmp 15), none⟩, .l) <| .c (⟨some 17, .move (.tmp 1), none⟩, .p) <| .c (⟨some 18, .move (.tmp 6), none⟩, .p) <| .c (⟨some 19, .indexAddr 25 (.tmp 17) (.tmp 18), none⟩, .p) <| .c (⟨some 20, .load 3 (.tmp 19), none⟩, .l) <| .c (⟨some 21, .binOp .add 3 (.tmp 16) (.tmp 20) 3, none⟩, .p) <| .c (⟨some 22, .call { callee := .value (.func 134), args := #[.tmp 21, .const (.int .i64 1000001)], argTypes := #[3, 3] }, none⟩, .e) <| .c (⟨some 23, .buildSlice 25 1 #[(0, .tmp 22)], none⟩, .e) <| .c (⟨some 24, .call { callee := .builtin .append, args := #[.tmp 12, .tmp 23], argTypes := #[25, 25] }, none⟩, .f) <| .c (⟨some 5, .assign (.tmp 24), none⟩, .p) <| .n) Q a) : LI Try.prog h0 L (.raw (.region id rg137_0 true)) Q a :=
  LI_draw (.c (0, .p) <| .c (1, .p) <| .c (2, .p) <| .c (3, .p) <| .c (4, .l) <| .c (5, .p) <| .c (6, .p) <| .c (7, .p) <| .c (8, .l) <| .c (9, .p) <| .c (10, .e) <| .c (11, .e) <| .c (12, .f) <| .c (13, .p) <| .n) [12] (by kernel_rfl) (by kernel_rfl) (by kernel_rfl) H
theorem dy137_0 {h0 : AH} {L : List It} {Q : Exit → List AV → List It → Prop} {a : List AV} {id : Nat} (H : LX Try.prog ⟨[10, 11, 12], []⟩ h0 L L (.c (⟨some 12, .move (.tmp 5), none⟩, .p) <| .c (⟨some 13, .move (.tmp 0), none⟩, .p) <| .c (⟨some 14, .move (.tmp 6), none⟩, .p) <| .c (⟨some 15, .indexAddr 25 (.tmp 13) (.tmp 14), none⟩, .p) <| .c (⟨some 16, .load 3 (.tmp 15), none⟩, .l) <| .c (⟨some 17, .move (.tmp 1), none⟩, .p) <| .c (⟨some 18, .move (.tmp 6), none⟩, .p) <| .c (⟨some 19, .indexAddr 25 (.tmp 17) (.tmp 18), none⟩, .p) <| .c (⟨some 20, .load 3 (.tmp 19), none⟩, .l) <| .c (⟨some 21, .binOp .add 3 (.tmp 16) (.tmp 20) 3, none⟩, .p) <| .c (⟨some 22, .call { callee := .value (.func 134), args := #[.tmp 21, .const (.int .i64 1000001)], argTypes := #[3, 3] }, none⟩, .f) <| .c (⟨some 23, .buildSlice 25 1 #[(0, .tmp 22)], none⟩, .f) <| .c (⟨some 24, .call { callee := .builtin .append, args := #[.tmp 12, .tmp 23], argTypes := #[25, 25] }, none⟩, .f) <| .c (⟨some 5, .assign (.tmp 24), none⟩, .p) <| .n) Q a) : LI Try.prog h0 L (.raw (.region id rg137_0 true)) Q a :=
  LI_draw (.c (0, .p) <| .c (1, .p) <| .c (2, .p) <| .c (3, .p) <| .c (4, .l) <| .c (5, .p) <| .c (6, .p) <| .c (7, .p) <| .c (8, .l) <| .c (9, .p) <| .c (10, .f) <| .c (11, .f) <| .c (12, .f) <| .c (13, .p) <| .n) [10, 11, 12] (by kernel_rfl) (by kernel_rfl) (by kernel_rfl) H
theorem dr137_0 (m : Nat) {Q : Exit → List AV → AH → Prop} {a : List AV} {h : AH} {id : Nat} (H : AX Try.prog m h [(⟨some 12, .move (.tmp 5), none⟩, true),
  (⟨some 13, .move (.tmp 0), none⟩, true),
  (⟨some 14, .move (.tmp 6), none⟩, true),
  (⟨some 15, .indexAddr 25 (.tmp 13) (.tmp 14), none⟩, true),
  (⟨some 16, .load 3 (.tmp 15), none⟩, true),
  (⟨some 17, .move (.tmp 1), none⟩, true),
  (⟨some 18, .move (.tmp 6), none⟩, true),
  (⟨some 19, .indexAddr 25 (.tmp 17) (.tmp 18), none⟩, true),
  (⟨some 20, .load 3 (.tmp 19), none⟩, true),
  (⟨some 21, .binOp .add 3 (.tmp 16) (.tmp 20) 3, none⟩, true),
  (⟨some 22, .call { callee := .value (.func 134), args := #[.tmp 21, .const (.int .i64 1000001)], argTypes := #[3, 3] }, none⟩, false),
  (⟨some 23, .buildSlice 25 1 #[(0, .tmp 22)], none⟩, false),
  (⟨some 24, .call { callee := .builtin .append, args := #[.tmp 12, .tmp 23], argTypes := #[25, 25] }, none⟩, false),
  (⟨some 5, .assign (.tmp 24), none⟩, true)] (fun a' h' => Q .normal a' h') a h) : AI Try.prog (.raw (.region id rg137_0 true)) Q a h :=
  AI_draw [(0, true), (1, true), (2, true), (3, true), (4, true), (5, true), (6, true), (7, true), (8, true), (9, true), (10, false), (11, false), (12, false), (13, true)] m (by kernel_rfl) (by kernel_rfl) (by kernel_rfl) H

noncomputable def rg114_0 : Array Oper := rawAt Try.f114 0
/-- spec.plExponents -/
noncomputable def c114 : IC :=
  (.seq
  (.reg [
    ⟨some 1, .box 27 (.tmp 0), none⟩,
    ⟨some 2, .assign (.const (.slice none 0 0)), none⟩])
  (.seq
  (.reg [
    ⟨some 3, .assign (.const (.slice none 0 0)), none⟩])
  (.seq
  (.seq
  (.reg [
    ⟨some 4, .assign (.const (.int .i64 0)), none⟩])
  (.block 0
  (.loop
    (.seq
    (.seq
    (.reg [
      ⟨some 8, .move (.tmp 4), none⟩,
      ⟨some 9, .fieldAddr 27 (.tmp 1) 0, none⟩,
      ⟨some 10, .load 3 (.tmp 9), none⟩,
      ⟨some 11, .binOp .lss 3 (.tmp 8) (.tmp 10) 3, none⟩])
    (.cond (.tmp 11)
      .skip
      (.exit 0)))
    (.seq
    (.block 1
    (.seq
    (.reg [
      ⟨some 14, .fieldAddr 27 (.tmp 1) 0, none⟩,
      ⟨some 15, .load 3 (.tmp 14), none⟩,
      ⟨some 16, .makeSlice 25 (.tmp 15) (.tmp 15), none⟩,
      ⟨some 5, .assign (.tmp 16), none⟩])
    (.seq
    (.reg [
      ⟨some 17, .move (.tmp 5), none⟩,
      ⟨some 18, .move (.tmp 4), none⟩,
      ⟨some 19, .indexAddr 25 (.tmp 17) (.tmp 18), none⟩,
      ⟨none, .store 3 (.tmp 19) (.const (.int .i64 1)), none⟩])
    (.reg [
      ⟨some 20, .move (.tmp 3), none⟩,
      ⟨some 21, .move (.tmp 5), none⟩,
      ⟨some 22, .buildSlice 77 1 #[(0, .tmp 21)], none⟩,
      ⟨some 23, .call { callee := .builtin .append, args := #[.tmp 20, .tmp 22], argTypes := #[77, 77] }, none⟩,
      ⟨some 3, .assign (.tmp 23), none⟩]))))
    (.reg [
      ⟨some 12, .move (.tmp 4), none⟩,
      ⟨some 13, .binOp .add 3 (.tmp 12) (.const (.int .i64 1)) 3, none⟩,
      ⟨some 4, .assign (.tmp 13), none⟩]))))))
  (.seq
  (.seq
  (.reg [
    ⟨some 24, .fieldAddr 27 (.tmp 1) 1, none⟩,
    ⟨some 25, .load 24 (.tmp 24), none⟩,
    ⟨some 26, .call { callee := .builtin .len, args := #[.tmp 25], argTypes := #[24] }, none⟩,
    ⟨some 27, .move (.const (.int .i64 0)), none⟩])
  (.block 2
  (.loop
    (.seq
    (.reg [
      ⟨some 28, .binOp .lss 3 (.tmp 27) (.tmp 26) 3, none⟩])
    (.seq
    (.cond (.tmp 28)
      .skip
      (.exit 2))
    (.seq
    (.block 3
    (.seq
    (.reg [
      ⟨some 29, .indexAddr 24 (.tmp 25) (.tmp 27), none⟩,
      ⟨some 30, .load 35 (.tmp 29), none⟩,
      ⟨some 7, .alloc 35, none⟩,
      ⟨none, .store 35 (.tmp 7) (.tmp 30), none⟩])
    (.raw (.region 11 rg114_0 true))))
    (.reg [
      ⟨some 45, .binOp .add 3 (.tmp 27) (.const (.int .i64 1)) 3, none⟩,
      ⟨some 27, .move (.tmp 45), none⟩])))))))
  (.seq
  (.reg [
    ⟨some 46, .move (.tmp 3), none⟩,
    ⟨some 2, .assign (.tmp 46), none⟩])
  .ret)))))
theorem hd114 : Try.f114.body.map dec = some c114 := by kernel_rfl
theorem e114 {R : AV → AH → Prop} {h : AH} (x0 : AV) (H : h.wf → AI Try.prog c114 (RetQ Try.prog [.tmp 2] R) [x0, un, un, un, un, un, un, un, un, un, un, un, un, un, un, un, un, un, un, un, un, un, un, un, un, un, un, un, un, un, un, un, un, un, un, un, un, un, un, un, un, un, un, un, un, un, un] h) : AC Try.prog 114 [x0] h R :=
  AC_of' (rs := [.tmp 2]) Try.func114 (by kernel_rfl) hd114 Try.ntmps114 rfl H
theorem dz114_0 {h0 : AH} {L : List It} {Q : Exit → List AV → List It → Prop} {a : List AV} {id : Nat} (H : LX Try.prog ⟨[13], []⟩ h0 L L (.c (⟨some 31, .move (.tmp 3), none⟩, .p) <| .c (⟨some 32, .move (.tmp 3), none⟩, .p) <| .c (⟨some 33, .fieldAddr 35 (.tmp 7) 0, none⟩, .p) <| .c (⟨some 34, .load 3 (.tmp 33), none⟩, .l) <| .c (⟨some 35, .indexAddr 77 (.tmp 32) (.tmp 34), none⟩, .p) <| .c (⟨some 36, .load 25 (.tmp 35), none⟩, .l) <| .c (⟨some 37, .move (.tmp 3), none⟩, .p) <| .c (⟨some 38, .fieldAddr 35 (.tmp 7) 1, none⟩, .p) <| .c (⟨some 39, .load 3 (.tmp 38), none⟩, .l) <| .c (⟨some 40, .indexAddr 77 (.tmp 37) (.tmp 39), none⟩, .p) <| .c (⟨some 41, .load 25 (.tmp 40), none⟩, .l) <| .c (⟨some 42, .call { callee := .value (.func 137), args := #[.tmp 36, .tmp 41], argTypes := #[25, 25] }, none⟩, .e) <| .c (⟨some 43, .buildSlice 77 1 #[(0, .tmp 42)], none⟩, .e) <| .c (⟨some 44, .call { callee := .builtin .append, args := #[.tmp 31, .tmp 43], argTypes := #[77, 77] }, none⟩, .f) <| .c (⟨some 3, .assign (.tmp 44), none⟩, .p) <| .n) Q a) : LI Try.prog h0 L (.raw (.region id rg114_0 true)) Q a :=
  LI_draw (.c (0, .p) <| .c (1, .p) <| .c (2, .p) <| .c (3, .l) <| .c (4, .p) <| .c (5, .l) <| .c (6, .p) <| .c (7, .p) <| .c (8, .l) <| .c (9, .p) <| .c (10, .l) <| .c (11, .e) <| .c (12, .e) <| .c (13, .f) <| .c (14, .p) <| .n) [13] (by kernel_rfl) (by kernel_rfl) (by kernel_rfl) H
theorem dy114_0 {h0 : AH} {L : List It} {Q : Exit → List AV → List It → Prop} {a : List AV} {id : Nat} (H : LX Try.prog ⟨[11, 12, 13], []⟩ h0 L L (.c (⟨some 31, .move (.tmp 3), none⟩, .p) <| .c (⟨some 32, .move (.tmp 3), none⟩, .p) <| .c (⟨some 33, .fieldAddr 35 (.tmp 7) 0, none⟩, .p) <| .c (⟨some 34, .load 3 (.tmp 33), none⟩, .l) <| .c (⟨some 35, .indexAddr 77 (.tmp 32) (.tmp 34), none⟩, .p) <| .c (⟨some 36, .load 25 (.tmp 35), none⟩, .l) <| .c (⟨some 37, .move (.tmp 3), none⟩, .p) <| .c (⟨some 38, .fieldAddr 35 (.tmp 7) 1, none⟩, .p) <| .c (⟨some 39, .load 3 (.tmp 38), none⟩, .l) <| .c (⟨some 40, .indexAddr 77 (.tmp 37) (.tmp 39), none⟩, .p) <| .c (⟨some 41, .load 25 (.tmp 40), none⟩, .l) <| .c (⟨some 42, .call { callee := .value (.func 137), args := #[.tmp 36, .tmp 41], argTypes := #[25, 25] }, none⟩, .f) <| .c (⟨some 43, .buildSlice 77 1 #[(0, .tmp 42)], none⟩, .f) <| .c (⟨some 44, .call { callee := .builtin .append, args := #[.tmp 31, .tmp 43], argTypes := #[77, 77] }, none⟩, .f) <| .c (⟨some 3, .assign (.tmp 44), none⟩, .p) <| .n) Q a) : LI Try.prog h0 L (.raw (.region id rg114_0 true)) Q a :=
  LI_draw (.c (0, .p) <| .c (1, .p) <| .c (2, .p) <| .c (3, .l) <| .c (4, .p) <| .c (5, .l) <| .c (6, .p) <| .c (7, .p) <| .c (8, .l) <| .c (9, .p) <| .c (10, .l) <| .c (11, .f) <| .c (12, .f) <| .c (13, .f) <| .c (14, .p) <| .n) [11, 12, 13] (by kernel_rfl) (by kernel_rfl) (by kernel_rfl) H
theorem dr114_0 (m : Nat) {Q : Exit → List AV → AH → Prop} {a : List AV} {h : AH} {id : Nat} (H : AX Try.prog m h [(⟨some 31, .move (.tmp 3), none⟩, true),
  (⟨some 32, .move (.tmp 3), none⟩, true),
  (⟨some 33, .fieldAddr 35 (.tmp 7) 0, none⟩, true),
  (⟨some 34, .load 3 (.tmp 33), none⟩, true),
  (⟨some 35, .indexAddr 77 (.tmp 32) (.tmp 34), none⟩, true),
  (⟨some 36, .load 25 (.tmp 35), none⟩, true),
  (⟨some 37, .move (.tmp 3), none⟩, true),
  (⟨some 38, .fieldAddr 35 (.tmp 7) 1, none⟩, true),
  (⟨some 39, .load 3 (.tmp 38), none⟩, true),
  (⟨some 40, .indexAddr 77 (.tmp 37) (.tmp 39), none⟩, true),
  (⟨some 41, .load 25 (.tmp 40), none⟩, true),
  (⟨some 42, .call { callee := .value (.func 137), args := #[.tmp 36, .tmp 41], argTypes := #[25, 25] }, none⟩, false),
  (⟨some 43, .buildSlice 77 1 #[(0, .tmp 42)], none⟩, false),
  (⟨some 44, .call { callee := .builtin .append, args := #[.tmp 31, .tmp 43], argTypes := #[77, 77] }, none⟩, false),
  (⟨some 3, .assign (.tmp 44), none⟩, true)] (fun a' h' => Q .normal a' h') a h) : AI Try.prog (.raw (.region id rg114_0 true)) Q a h :=
  AI_draw [(0, true), (1, true), (2, true), (3, true), (4, true), (5, true), (6, true), (7, true), (8, true), (9, true), (10, true), (11, false), (12, false), (13, false), (14, true)] m (by kernel_rfl) (by kernel_rfl) (by kernel_rfl) H

/-- spec.plGood -/
def c59 : IC :=
  (.seq
  (.reg [
    ⟨some 1, .box 27 (.tmp 0), none⟩,
    ⟨some 2, .assign (.const (.bool false)), none⟩])
  (.seq
  (.seq
  (.reg [
    ⟨some 7, .fieldAddr 27 (.tmp 1) 0, none⟩,
    ⟨some 8, .load 3 (.tmp 7), none⟩,
    ⟨some 9, .call { callee := .value (.func 60), args := #[.tmp 8, .const (.int .i64 1), .const (.int .i64 6)], argTypes := #[3, 3, 3] }, none⟩,
    ⟨some 10, .unOp .not 4 (.tmp 9), none⟩,
    ⟨some 11, .move (.tmp 10), none⟩,
    ⟨some 12, .fieldAddr 27 (.tmp 1) 1, some (11, false)⟩,
    ⟨some 13, .load 24 (.tmp 12), some (11, false)⟩,
    ⟨some 14, .call { callee := .builtin .len, args := #[.tmp 13], argTypes := #[24] }, some (11, false)⟩,
    ⟨some 15, .binOp .gtr 3 (.tmp 14) (.const (.int .i64 40)) 3, some (11, false)⟩,
    ⟨some 16, .pick (.tmp 11) (.const (.bool true)) (.tmp 15), none⟩,
    ⟨some 17, .move (.tmp 16), none⟩,
    ⟨some 18, .fieldAddr 27 (.tmp 1) 2, some (17, false)⟩,
    ⟨some 19, .load 25 (.tmp 18), some (17, false)⟩,
    ⟨some 20, .call { callee := .builtin .len, args := #[.tmp 19], argTypes := #[25] }, some (17, false)⟩,
    ⟨some 21, .binOp .gtr 3 (.tmp 20) (.const (.int .i64 6)) 3, some (17, false)⟩,
    ⟨some 22, .pick (.tmp 17) (.const (.bool true)) (.tmp 21), none⟩])
  (.cond (.tmp 22)
    (.seq
    (.reg [
      ⟨some 2, .assign (.const (.bool false)), none⟩])
    .ret)
    .skip))
  (.seq
  (.seq
  (.reg [
    ⟨some 23, .fieldAddr 27 (.tmp 1) 1, none⟩,
    ⟨some 24, .load 24 (.tmp 23), none⟩,
    ⟨some 25, .call { callee := .builtin .len, args := #[.tmp 24], argTypes := #[24] }, none⟩,
    ⟨some 26, .move (.const (.int .i64 0)), none⟩])
  (.block 0
  (.loop
    (.seq
    (.reg [
      ⟨some 27, .binOp .lss 3 (.tmp 26) (.tmp 25) 3, none⟩])
    (.seq
    (.cond (.tmp 27)
      .skip
      (.exit 0))
    (.seq
    (.block 1
    (.seq
    (.reg [
      ⟨some 28, .move (.tmp 26), none⟩,
      ⟨some 29, .indexAddr 24 (.tmp 24) (.tmp 26), none⟩,
      ⟨some 30, .load 35 (.tmp 29), none⟩,
      ⟨some 4, .alloc 35, none⟩,
      ⟨some 3, .assign (.tmp 28), none⟩,
      ⟨none, .store 35 (.tmp 4) (.tmp 30), none⟩])
    (.seq
    (.reg [
      ⟨some 31, .fieldAddr 35 (.tmp 4) 0, none⟩,
      ⟨some 32, .load 3 (.tmp 31), none⟩,
      ⟨some 33, .fieldAddr 35 (.tmp 4) 1, none⟩,
      ⟨some 34, .load 3 (.tmp 33), none⟩,
      ⟨some 35, .call { callee := .value (.func 60), args := #[.tmp 32, .const (.int .i64 0), .tmp 34], argTypes := #[3, 3, 3] }, none⟩,
      ⟨some 36, .unOp .not 4 (.tmp 35), none⟩,
      ⟨some 37, .move (.tmp 36), none⟩,
      ⟨some 38, .fieldAddr 35 (.tmp 4) 1, some (37, false)⟩,
      ⟨some 39, .load 3 (.tmp 38), some (37, false)⟩,
      ⟨some 40, .fieldAddr 27 (.tmp 1) 0, some (37, false)⟩,
      ⟨some 41, .load 3 (.tmp 40), some (37, false)⟩,
      ⟨some 42, .move (.tmp 3), some (37, false)⟩,
      ⟨some 43, .binOp .add 3 (.tmp 41) (.tmp 42) 3, some (37, false)⟩,
      ⟨some 44, .binOp .geq 3 (.tmp 39) (.tmp 43) 3, some (37, false)⟩,
      ⟨some 45, .pick (.tmp 37) (.const (.bool true)) (.tmp 44), none⟩])
    (.cond (.tmp 45)
      (.seq
      (.reg [
        ⟨some 2, .assign (.const (.bool false)), none⟩])
      .ret)
      .skip))))
    (.reg [
      ⟨some 46, .binOp .add 3 (.tmp 26) (.const (.int .i64 1)) 3, none⟩,
      ⟨some 26, .move (.tmp 46), none⟩])))))))
  (.seq
  (.seq
  (.reg [
    ⟨some 47, .load 27 (.tmp 1), none⟩,
    ⟨some 48, .call { callee := .value (.func 114), args := #[.tmp 47], argTypes := #[27] }, none⟩,
    ⟨some 49, .call { callee := .builtin .len, args := #[.tmp 48], argTypes := #[77] }, none⟩,
    ⟨some 50, .move (.const (.int .i64 0)), none⟩])
  (.block 2
  (.loop
    (.seq
    (.reg [
      ⟨some 51, .binOp .lss 3 (.tmp 50) (.tmp 49) 3, none⟩])
    (.seq
    (.cond (.tmp 51)
      .skip
      (.exit 2))
    (.seq
    (.block 3
    (.seq
    (.reg [
      ⟨some 52, .indexAddr 77 (.tmp 48) (.tmp 50), none⟩,
      ⟨some 53, .load 25 (.tmp 52), none⟩,
      ⟨some 6, .assign (.tmp 53), none⟩])
    (.seq
    (.reg [
      ⟨some 54, .move (.tmp 6), none⟩,
      ⟨some 55, .call { callee := .value (.func 81), args := #[.tmp 54, .const (.int .i64 0), .const (.int .i64 1000000)], argTypes := #[25, 3, 3] }, none⟩,
      ⟨some 56, .unOp .not 4 (.tmp 55), none⟩])
    (.cond (.tmp 56)
      (.seq
      (.reg [
        ⟨some 2, .assign (.const (.bool false)), none⟩])
      .ret)
      .skip))))
    (.reg [
      ⟨some 57, .binOp .add 3 (.tmp 50) (.const (.int .i64 1)) 3, none⟩,
      ⟨some 50, .move (.tmp 57), none⟩])))))))
  (.seq
  (.reg [
    ⟨some 58, .fieldAddr 27 (.tmp 1) 2, none⟩,
    ⟨some 59, .load 25 (.tmp 58), none⟩,
    ⟨some 60, .fieldAddr 27 (.tmp 1) 0, none⟩,
    ⟨some 61, .load 3 (.tmp 60), none⟩,
    ⟨some 62, .fieldAddr 27 (.tmp 1) 1, none⟩,
    ⟨some 63, .load 24 (.tmp 62), none⟩,
    ⟨some 64, .call { callee := .builtin .len, args := #[.tmp 63], argTypes := #[24] }, none⟩,
    ⟨some 65, .binOp .add 3 (.tmp 61) (.tmp 64) 3, none⟩,
    ⟨some 66, .binOp .sub 3 (.tmp 65) (.const (.int .i64 1)) 3, none⟩,
    ⟨some 67, .call { callee := .value (.func 81), args := #[.tmp 59, .const (.int .i64 0), .tmp 66], argTypes := #[25, 3, 3] }, none⟩,
    ⟨some 2, .assign (.tmp 67), none⟩])
  .ret)))))
theorem hd59 : Try.f59.body.map dec = some c59 := by kernel_rfl
theorem e59 {R : AV → AH → Prop} {h : AH} (x0 : AV) (H : h.wf → AI Try.prog c59 (RetQ Try.prog [.tmp 2] R) [x0, un, un, un, un, un, un, un, un, un, un, un, un, un, un, un, un, un, un, un, un, un, un, un, un, un, un, un, un, un, un, un, un, un, un, un, un, un, un, un, un, un, un, un, un, un, un, un, un, un, un, un, un, un, un, un, un, un, un, un, un, un, un, un, un, un, un, un] h) : AC Try.prog 59 [x0] h R :=
  AC_of' (rs := [.tmp 2]) Try.func59 (by kernel_rfl) hd59 Try.ntmps59 rfl H

noncomputable def rg61_0 : Array Oper := rawAt Try.f61 0
/-- spec.duPaths -/
noncomputable def c61 : IC :=
  (.seq
  (.reg [
    ⟨some 2, .box 27 (.tmp 0), none⟩,
    ⟨some 4, .assign (.const (.slice none 0 0)), none⟩])
  (.seq
  (.reg [
    ⟨some 8, .fieldAddr 27 (.tmp 2) 0, none⟩,
    ⟨some 9, .load 3 (.tmp 8), none⟩,
    ⟨some 10, .fieldAddr 27 (.tmp 2) 1, none⟩,
    ⟨some 11, .load 24 (.tmp 10), none⟩,
    ⟨some 12, .call { callee := .builtin .len, args := #[.tmp 11], argTypes := #[24] }, none⟩,
    ⟨some 13, .binOp .add 3 (.tmp 9) (.tmp 12) 3, none⟩,
    ⟨some 14, .makeSlice 25 (.tmp 13) (.tmp 13), none⟩,
    ⟨some 5, .assign (.tmp 14), none⟩])
  (.seq
  (.reg [
    ⟨some 15, .move (.tmp 5), none⟩,
    ⟨some 16, .move (.tmp 1), none⟩,
    ⟨some 17, .indexAddr 25 (.tmp 15) (.tmp 16), none⟩,
    ⟨none, .store 3 (.tmp 17) (.const (.int .i64 1)), none⟩])
  (.seq
  (.seq
  (.reg [
    ⟨some 18, .fieldAddr 27 (.tmp 2) 1, none⟩,
    ⟨some 19, .load 24 (.tmp 18), none⟩,
    ⟨some 20, .call { callee := .builtin .len, args := #[.tmp 19], argTypes := #[24] }, none⟩,
    ⟨some 21, .move (.const (.int .i64 0)), none⟩])
  (.block 0
  (.loop
    (.seq
    (.reg [
      ⟨some 22, .binOp .lss 3 (.tmp 21) (.tmp 20) 3, none⟩])
    (.seq
    (.cond (.tmp 22)
      .skip
      (.exit 0))
    (.seq
    (.block 1
    (.seq
    (.reg [
      ⟨some 23, .move (.tmp 21), none⟩,
      ⟨some 24, .indexAddr 24 (.tmp 19) (.tmp 21), none⟩,
      ⟨some 25, .load 35 (.tmp 24), none⟩,
      ⟨some 7, .alloc 35, none⟩,
      ⟨some 6, .assign (.tmp 23), none⟩,
      ⟨none, .store 35 (.tmp 7) (.tmp 25), none⟩])
    (.seq
    (.reg [
      ⟨some 26, .fieldAddr 27 (.tmp 2) 0, none⟩,
      ⟨some 27, .load 3 (.tmp 26), none⟩,
      ⟨some 28, .move (.tmp 6), none⟩,
      ⟨some 29, .binOp .add 3 (.tmp 27) (.tmp 28) 3, none⟩,
      ⟨some 30, .move (.tmp 1), none⟩,
      ⟨some 31, .binOp .neq 3 (.tmp 29) (.tmp 30) 3, none⟩])
    (.cond (.tmp 31)
      (.raw (.region 7 rg61_0 true))
      .skip))))
    (.reg [
      ⟨some 49, .binOp .add 3 (.tmp 21) (.const (.int .i64 1)) 3, none⟩,
      ⟨some 21, .move (.tmp 49), none⟩])))))))
  (.seq
  (.reg [
    ⟨some 50, .move (.tmp 5), none⟩,
    ⟨some 4, .assign (.tmp 50), none⟩])
  .ret)))))
theorem hd61 : Try.f61.body.map dec = some c61 := by kernel_rfl
theorem e61 {R : AV → AH → Prop} {h : AH} (x0 x1 : AV) (H : h.wf → AI Try.prog c61 (RetQ Try.prog [.tmp 4] R) [x0, x1, un, un, un, un, un, un, un, un, un, un, un, un, un, un, un, un, un, un, un, un, un, un, un, un, un, un, un, un, un, un, un, un, un, un, un, un, un, un, un, un, un, un, un, un, un, un, un, un, un] h) : AC Try.prog 61 [x0, x1] h R :=
  AC_of' (rs := [.tmp 4]) Try.func61 (by kernel_rfl) hd61 Try.ntmps61 rfl H
theorem dz61_0 {h0 : AH} {L : List It} {Q : Exit → List AV → List It → Prop} {a : List AV} {id : Nat} (H : LX Try.prog ⟨[17], []⟩ h0 L L (.c (⟨some 32, .move (.tmp 5), none⟩, .p) <| .c (⟨some 33, .fieldAddr 27 (.tmp 2) 0, none⟩, .p) <| .c (⟨some 34, .load 3 (.tmp 33), none⟩, .l) <| .c (⟨some 35, .move (.tmp 6), none⟩, .p) <| .c (⟨some 36, .binOp .add 3 (.tmp 34) (.tmp 35) 3, none⟩, .p) <| .c (⟨some 37, .move (.tmp 5), none⟩, .p) <| .c (⟨some 38, .fieldAddr 35 (.tmp 7) 0, none⟩, .p) <| .c (⟨some 39, .load 3 (.tmp 38), none⟩, .l) <| .c (⟨some 40, .indexAddr 25 (.tmp 37) (.tmp 39), none⟩, .p) <| .c (⟨some 41, .load 3 (.tmp 40), none⟩, .l) <| .c (⟨some 42, .move (.tmp 5), none⟩, .p) <| .c (⟨some 43, .fieldAddr 35 (.tmp 7) 1, none⟩, .p) <| .c (⟨some 44, .load 3 (.tmp 43), none⟩, .l) <| .c (⟨some 45, .indexAddr 25 (.tmp 42) (.tmp 44), none⟩, .p) <| .c (⟨some 46, .load 3 (.tmp 45), none⟩, .l) <| .c (⟨some 47, .binOp .add 3 (.tmp 41) (.tmp 46) 3, none⟩, .p) <| .c (⟨some 48, .indexAddr 25 (.tmp 32) (.tmp 36), none⟩, .p) <| .c (⟨none, .store 3 (.tmp 48) (.tmp 47), none⟩, .f) <| .n) Q a) : LI Try.prog h0 L (.raw (.region id rg61_0 true)) Q a :=
  LI_draw (.c (0, .p) <| .c (1, .p) <| .c (2, .l) <| .c (3, .p) <| .c (4, .p) <| .c (5, .p) <| .c (6, .p) <| .c (7, .l) <| .c (8, .p) <| .c (9, .l) <| .c (10, .p) <| .c (11, .p) <| .c (12, .l) <| .c (13, .p) <| .c (14, .l) <| .c (15, .p) <| .c (16, .p) <| .c (17, .f) <| .n) [17] (by kernel_rfl) (by kernel_rfl) (by kernel_rfl) H
theorem dr61_0 (m : Nat) {Q : Exit → List AV → AH → Prop} {a : List AV} {h : AH} {id : Nat} (H : AX Try.prog m h [(⟨some 32, .move (.tmp 5), none⟩, true),
  (⟨some 33, .fieldAddr 27 (.tmp 2) 0, none⟩, true),
  (⟨some 34, .load 3 (.tmp 33), none⟩, true),
  (⟨some 35, .move (.tmp 6), none⟩, true),
  (⟨some 36, .binOp .add 3 (.tmp 34) (.tmp 35) 3, none⟩, true),
  (⟨some 37, .move (.tmp 5), none⟩, true),
  (⟨some 38, .fieldAddr 35 (.tmp 7) 0, none⟩, true),
  (⟨some 39, .load 3 (.tmp 38), none⟩, true),
  (⟨some 40, .indexAddr 25 (.tmp 37) (.tmp 39), none⟩, true),
  (⟨some 41, .load 3 (.tmp 40), none⟩, true),
  (⟨some 42, .move (.tmp 5), none⟩, true),
  (⟨some 43, .fieldAddr 35 (.tmp 7) 1, none⟩, true),
  (⟨some 44, .load 3 (.tmp 43), none⟩, true),
  (⟨some 45, .indexAddr 25 (.tmp 42) (.tmp 44), none⟩, true),
  (⟨some 46, .load 3 (.tmp 45), none⟩, true),
  (⟨some 47, .binOp .add 3 (.tmp 41) (.tmp 46) 3, none⟩, true),
  (⟨some 48, .indexAddr 25 (.tmp 32) (.tmp 36), none⟩, true),
  (⟨none, .store 3 (.tmp 48) (.tmp 47), none⟩, false)] (fun a' h' => Q .normal a' h') a h) : AI Try.prog (.raw (.region id rg61_0 true)) Q a h :=
  AI_draw [(0, true), (1, true), (2, true), (3, true), (4, true), (5, true), (6, true), (7, true), (8, true), (9, true), (10, true), (11, true), (12, true), (13, true), (14, true), (15, true), (16, true), (17, false)] m (by kernel_rfl) (by kernel_rfl) (by kernel_rfl) H

/-- spec.CountPaths -/
def c18 : IC :=
  (.seq
  (.reg [
    ⟨some 3, .box 27 (.tmp 0), none⟩,
    ⟨some 6, .assign (.const (.int .i64 0)), none⟩,
    ⟨some 7, .assign (.const (.bool false)), none⟩])
  (.seq
  (.seq
  (.reg [
    ⟨some 8, .load 27 (.tmp 3), none⟩,
    ⟨some 9, .call { callee := .value (.func 59), args := #[.tmp 8], argTypes := #[27] }, none⟩,
    ⟨some 10, .unOp .not 4 (.tmp 9), none⟩,
    ⟨some 11, .move (.tmp 10), none⟩,
    ⟨some 12, .move (.tmp 1), some (11, false)⟩,
    ⟨some 13, .fieldAddr 27 (.tmp 3) 0, some (11, false)⟩,
    ⟨some 14, .load 3 (.tmp 13), some (11, false)⟩,
    ⟨some 15, .fieldAddr 27 (.tmp 3) 1, some (11, false)⟩,
    ⟨some 16, .load 24 (.tmp 15), some (11, false)⟩,
    ⟨some 17, .call { callee := .builtin .len, args := #[.tmp 16], argTypes := #[24] }, some (11, false)⟩,
    ⟨some 18, .binOp .add 3 (.tmp 14) (.tmp 17) 3, some (11, false)⟩,
    ⟨some 19, .binOp .sub 3 (.tmp 18) (.const (.int .i64 1)) 3, some (11, false)⟩,
    ⟨some 20, .call { callee := .value (.func 60), args := #[.tmp 12, .const (.int .i64 0), .tmp 19], argTypes := #[3, 3, 3] }, some (11, false)⟩,
    ⟨some 21, .unOp .not 4 (.tmp 20), some (11, false)⟩,
    ⟨some 22, .pick (.tmp 11) (.const (.bool true)) (.tmp 21), none⟩,
    ⟨some 23, .move (.tmp 22), none⟩,
    ⟨some 24, .move (.tmp 2), some (23, false)⟩,
    ⟨some 25, .fieldAddr 27 (.tmp 3) 0, some (23, false)⟩,
    ⟨some 26, .load 3 (.tmp 25), some (23, false)⟩,
    ⟨some 27, .fieldAddr 27 (.tmp 3) 1, some (23, false)⟩,
    ⟨some 28, .load 24 (.tmp 27), some (23, false)⟩,
    ⟨some 29, .call { callee := .builtin .len, args := #[.tmp 28], argTypes := #[24] }, some (23, false)⟩,
    ⟨some 30, .binOp .add 3 (.tmp 26) (.tmp 29) 3, some (23, false)⟩,
    ⟨some 31, .binOp .sub 3 (.tmp 30) (.const (.int .i64 1)) 3, some (23, false)⟩,
    ⟨some 32, .call { callee := .value (.func 60), args := #[.tmp 24, .const (.int .i64 0), .tmp 31], argTypes := #[3, 3, 3] }, some (23, false)⟩,
    ⟨some 33, .unOp .not 4 (.tmp 32), some (23, false)⟩,
    ⟨some 34, .pick (.tmp 23) (.const (.bool true)) (.tmp 33), none⟩])
  (.cond (.tmp 34)
    (.seq
    (.reg [
      ⟨some 6, .assign (.const (.int .i64 0)), none⟩,
      ⟨some 7, .assign (.const (.bool false)), none⟩])
    .ret)
    .skip))
  (.seq
  (.reg [
    ⟨some 35, .load 27 (.tmp 3), none⟩,
    ⟨some 36, .move (.tmp 1), none⟩,
    ⟨some 37, .call { callee := .value (.func 61), args := #[.tmp 35, .tmp 36], argTypes := #[27, 3] }, none⟩,
    ⟨some 38, .move (.tmp 2), none⟩,
    ⟨some 39, .indexAddr 25 (.tmp 37) (.tmp 38), none⟩,
    ⟨some 40, .load 3 (.tmp 39), none⟩,
    ⟨some 6, .assign (.tmp 40), none⟩,
    ⟨some 7, .assign (.const (.bool true)), none⟩])
  .ret)))
theorem hd18 : Try.f18.body.map dec = some c18 := by kernel_rfl
theorem e18 {R : AV → AH → Prop} {h : AH} (x0 x1 x2 : AV) (H : h.wf → AI Try.prog c18 (RetQ Try.prog [.tmp 6, .tmp 7] R) [x0, x1, x2, un, un, un, un, un, un, un, un, un, un, un, un, un, un, un, un, un, un, un, un, un, un, un, un, un, un, un, un, un, un, un, un, un, un, un, un, un, un] h) : AC Try.prog 18 [x0, x1, x2] h R :=
  AC_of' (rs := [.tmp 6, .tmp 7]) Try.func18 (by kernel_rfl) hd18 Try.ntmps18 rfl H

/-- impl.ValueExponents -/
def c19 : IC :=
  (.seq
  (.reg [
    ⟨some 2, .box 27 (.tmp 0), none⟩,
    ⟨some 4, .assign (.const (.slice none 0 0)), none⟩,
    ⟨some 5, .assign (.const (.bool false)), none⟩])
  (.seq
  (.seq
  (.reg [
    ⟨some 6, .load 27 (.tmp 2), none⟩,
    ⟨some 7, .call { callee := .value (.func 56), args := #[.tmp 6], argTypes := #[27] }, none⟩,
    ⟨some 8, .unOp .not 4 (.tmp 7), none⟩,
    ⟨some 9, .move (.tmp 8), none⟩,
    ⟨some 10, .move (.tmp 1), some (9, false)⟩,
    ⟨some 11, .call { callee := .value (.func 58), args := #[.tmp 2], argTypes := #[27] }, some (9, false)⟩,
    ⟨some 12, .binOp .sub 3 (.tmp 11) (.const (.int .i64 1)) 3, some (9, false)⟩,
    ⟨some 13, .call { callee := .value (.func 57), args := #[.tmp 10, .const (.int .i64 0), .tmp 12], argTypes := #[3, 3, 3] }, some (9, false)⟩,
    ⟨some 14, .unOp .not 4 (.tmp 13), some (9, false)⟩,
    ⟨some 15, .pick (.tmp 9) (.const (.bool true)) (.tmp 14), none⟩])
  (.cond (.tmp 15)
    (.seq
    (.reg [
      ⟨some 4, .assign (.const (.slice none 0 0)), none⟩,
      ⟨some 5, .assign (.const (.bool false)), none⟩])
    .ret)
    .skip))
  (.seq
  (.reg [
    ⟨some 16, .call { callee := .value (.func 62), args := #[.tmp 2], argTypes := #[27] }, none⟩,
    ⟨some 17, .move (.tmp 1), none⟩,
    ⟨some 18, .indexAddr 77 (.tmp 16) (.tmp 17), none⟩,
    ⟨some 19, .load 25 (.tmp 18), none⟩,
    ⟨some 4, .assign (.tmp 19), none⟩,
    ⟨some 5, .assign (.const (.bool true)), none⟩])
  .ret)))
theorem hd19 : Try.f19.body.map dec = some c19 := by kernel_rfl
theorem e19 {R : AV → AH → Prop} {h : AH} (x0 x1 : AV) (H : h.wf → AI Try.prog c19 (RetQ Try.prog [.tmp 4, .tmp 5] R) [x0, x1, un, un, un, un, un, un, un, un, un, un, un, un, un, un, un, un, un, un] h) : AC Try.prog 19 [x0, x1] h R :=
  AC_of' (rs := [.tmp 4, .tmp 5]) Try.func19 (by kernel_rfl) hd19 Try.ntmps19 rfl H

/-- laws.FnPathsAreExponents -/
def c3 : IC :=
  (.seq
  (.reg [
    ⟨some 4, .assign (.const (.bool false)), none⟩])
  (.seq
  (.seq
  (.reg [
    ⟨some 23, .move (.tmp 0), none⟩,
    ⟨some 24, .move (.tmp 1), none⟩,
    ⟨some 25, .call { callee := .value (.func 15), args := #[.tmp 23, .tmp 24], argTypes := #[22, 22] }, none⟩])
  (.cond (.tmp 25)
    (.seq
    (.reg [
      ⟨some 4, .assign (.const (.bool true)), none⟩])
    .ret)
    .skip))
  (.seq
  (.reg [
    ⟨some 27, .move (.tmp 0), none⟩,
    ⟨some 28, .call { callee := .value (.func 16), args := #[.tmp 27], argTypes := #[22] }, none⟩,
    ⟨some 26, .move (.tmp 28), none⟩,
    ⟨some 29, .extract (.tmp 26) 0, none⟩,
    ⟨some 30, .extract (.tmp 26) 1, none⟩,
    ⟨some 31, .extract (.tmp 26) 2, none⟩,
    ⟨some 5, .alloc 27, none⟩,
    ⟨none, .store 27 (.tmp 5) (.tmp 29), none⟩,
    ⟨some 6, .assign (.tmp 30), none⟩,
    ⟨some 7, .assign (.tmp 31), none⟩])
  (.seq
  (.reg [
    ⟨some 33, .load 27 (.tmp 5), none⟩,
    ⟨some 34, .move (.tmp 6), none⟩,
    ⟨some 35, .move (.tmp 7), none⟩,
    ⟨some 36, .call { callee := .value (.func 17), args := #[.tmp 33, .tmp 34, .tmp 35], argTypes := #[27, 3, 3] }, none⟩,
    ⟨some 32, .move (.tmp 36), none⟩,
    ⟨some 37, .extract (.tmp 32) 0, none⟩,
    ⟨some 38, .extract (.tmp 32) 1, none⟩,
    ⟨some 8, .assign (.tmp 37), none⟩,
    ⟨some 9, .assign (.tmp 38), none⟩])
  (.seq
  (.reg [
    ⟨some 40, .load 27 (.tmp 5), none⟩,
    ⟨some 41, .move (.tmp 6), none⟩,
    ⟨some 42, .move (.tmp 7), none⟩,
    ⟨some 43, .call { callee := .value (.func 18), args := #[.tmp 40, .tmp 41, .tmp 42], argTypes := #[27, 3, 3] }, none⟩,
    ⟨some 39, .move (.tmp 43), none⟩,
    ⟨some 44, .extract (.tmp 39) 0, none⟩,
    ⟨some 45, .extract (.tmp 39) 1, none⟩,
    ⟨some 10, .assign (.tmp 44), none⟩,
    ⟨some 11, .assign (.tmp 45), none⟩])
  (.seq
  (.seq
  (.reg [
    ⟨some 46, .move (.tmp 9), none⟩,
    ⟨some 47, .move (.tmp 11), none⟩,
    ⟨some 48, .binOp .neq 4 (.tmp 46) (.tmp 47) 4, none⟩,
    ⟨some 49, .move (.tmp 48), none⟩,
    ⟨some 50, .move (.tmp 8), some (49, false)⟩,
    ⟨some 51, .move (.tmp 10), some (49, false)⟩,
    ⟨some 52, .binOp .neq 3 (.tmp 50) (.tmp 51) 3, some (49, false)⟩,
    ⟨some 53, .pick (.tmp 49) (.const (.bool true)) (.tmp 52), none⟩])
  (.cond (.tmp 53)
    (.seq
    (.reg [
      ⟨some 4, .assign (.const (.bool false)), none⟩])
    .ret)
    .skip))
  (.seq
  (.seq
  (.reg [
    ⟨some 54, .move (.tmp 11), none⟩,
    ⟨some 55, .unOp .not 4 (.tmp 54), none⟩])
  (.cond (.tmp 55)
    (.seq
    (.reg [
      ⟨some 4, .assign (.const (.bool true)), none⟩])
    .ret)
    .skip))
  (.seq
  (.reg [
    ⟨some 57, .load 27 (.tmp 5), none⟩,
    ⟨some 58, .move (.tmp 7), none⟩,
    ⟨some 59, .call { callee := .value (.func 19), args := #[.tmp 57, .tmp 58], argTypes := #[27, 3] }, none⟩,
    ⟨some 56, .move (.tmp 59), none⟩,
    ⟨some 60, .extract (.tmp 56) 0, none⟩,
    ⟨some 61, .extract (.tmp 56) 1, none⟩,
    ⟨some 12, .assign (.tmp 60), none⟩,
    ⟨some 13, .assign (.tmp 61), none⟩])
  (.seq
  (.seq
  (.reg [
    ⟨some 62, .move (.tmp 13), none⟩,
    ⟨some 63, .unOp .not 4 (.tmp 62), none⟩,
    ⟨some 64, .move (.tmp 63), none⟩,
    ⟨some 65, .move (.tmp 6), some (64, false)⟩,
    ⟨some 66, .move (.tmp 7), some (64, false)⟩,
    ⟨some 67, .binOp .gtr 3 (.tmp 65) (.tmp 66) 3, some (64, false)⟩,
    ⟨some 68, .move (.tmp 67), some (64, false)⟩,
    ⟨some 69, .move (.tmp 8), some (68, true)⟩,
    ⟨some 70, .binOp .neq 3 (.tmp 69) (.const (.int .i64 0)) 3, some (68, true)⟩,
    ⟨some 71, .pick (.tmp 68) (.tmp 70) (.const (.bool false)), some (64, false)⟩,
    ⟨some 72, .pick (.tmp 64) (.const (.bool true)) (.tmp 71), none⟩,
    ⟨some 73, .move (.tmp 72), none⟩,
    ⟨some 74, .move (.tmp 6), some (73, false)⟩,
    ⟨some 75, .move (.tmp 7), some (73, false)⟩,
    ⟨some 76, .binOp .eql 3 (.tmp 74) (.tmp 75) 3, some (73, false)⟩,
    ⟨some 77, .move (.tmp 76), some (73, false)⟩,
    ⟨some 78, .move (.tmp 8), some (77, true)⟩,
    ⟨some 79, .binOp .neq 3 (.tmp 78) (.const (.int .i64 1)) 3, some (77, true)⟩,
    ⟨some 80, .pick (.tmp 77) (.tmp 79) (.const (.bool false)), some (73, false)⟩,
    ⟨some 81, .pick (.tmp 73) (.const (.bool true)) (.tmp 80), none⟩])
  (.cond (.tmp 81)
    (.seq
    (.reg [
      ⟨some 4, .assign (.const (.bool false)), none⟩])
    .ret)
    .skip))
  (.seq
  (.seq
  (.reg [
    ⟨some 82, .move (.tmp 12), none⟩,
    ⟨some 83, .call { callee := .builtin .len, args := #[.tmp 82], argTypes := #[25] }, none⟩,
    ⟨some 84, .move (.const (.int .i64 0)), none⟩])
  (.block 0
  (.loop
    (.seq
    (.reg [
      ⟨some 85, .binOp .lss 3 (.tmp 84) (.tmp 83) 3, none⟩])
    (.seq
    (.cond (.tmp 85)
      .skip
      (.exit 0))
    (.seq
    (.block 1
    (.seq
    (.reg [
      ⟨some 86, .move (.tmp 84), none⟩,
      ⟨some 87, .indexAddr 25 (.tmp 82) (.tmp 84), none⟩,
      ⟨some 88, .load 3 (.tmp 87), none⟩,
      ⟨some 14, .assign (.tmp 86), none⟩,
      ⟨some 15, .assign (.tmp 88), none⟩])
    (.seq
    (.reg [
      ⟨some 90, .load 27 (.tmp 5), none⟩,
      ⟨some 91, .move (.tmp 14), none⟩,
      ⟨some 92, .move (.tmp 7), none⟩,
      ⟨some 93, .call { callee := .value (.func 17), args := #[.tmp 90, .tmp 91, .tmp 92], argTypes := #[27, 3, 3] }, none⟩,
      ⟨some 89, .move (.tmp 93), none⟩,
      ⟨some 94, .extract (.tmp 89) 0, none⟩,
      ⟨some 95, .extract (.tmp 89) 1, none⟩,
      ⟨some 16, .assign (.tmp 94), none⟩,
      ⟨some 17, .assign (.tmp 95), none⟩])
    (.seq
    (.reg [
      ⟨some 96, .move (.tmp 17), none⟩,
      ⟨some 97, .unOp .not 4 (.tmp 96), none⟩,
      ⟨some 98, .move (.tmp 97), none⟩,
      ⟨some 99, .move (.tmp 16), some (98, false)⟩,
      ⟨some 100, .move (.tmp 15), some (98, false)⟩,
      ⟨some 101, .binOp .neq 3 (.tmp 99) (.tmp 100) 3, some (98, false)⟩,
      ⟨some 102, .pick (.tmp 98) (.const (.bool true)) (.tmp 101), none⟩])
    (.cond (.tmp 102)
      (.seq
      (.reg [
        ⟨some 4, .assign (.const (.bool false)), none⟩])
      .ret)
      .skip)))))
    (.reg [
      ⟨some 103, .binOp .add 3 (.tmp 84) (.const (.int .i64 1)) 3, none⟩,
      ⟨some 84, .move (.tmp 103), none⟩])))))))
  (.seq
  (.seq
  (.reg [
    ⟨some 104, .move (.tmp 7), none⟩,
    ⟨some 105, .fieldAddr 27 (.tmp 5) 0, none⟩,
    ⟨some 106, .load 3 (.tmp 105), none⟩,
    ⟨some 107, .binOp .lss 3 (.tmp 104) (.tmp 106) 3, none⟩,
    ⟨some 108, .move (.tmp 107), none⟩,
    ⟨some 109, .move (.tmp 6), some (108, false)⟩,
    ⟨some 110, .move (.tmp 7), some (108, false)⟩,
    ⟨some 111, .binOp .eql 3 (.tmp 109) (.tmp 110) 3, some (108, false)⟩,
    ⟨some 112, .pick (.tmp 108) (.const (.bool true)) (.tmp 111), none⟩])
  (.cond (.tmp 112)
    (.seq
    (.reg [
      ⟨some 4, .assign (.const (.bool true)), none⟩])
    .ret)
    .skip))
  (.seq
  (.reg [
    ⟨some 113, .fieldAddr 27 (.tmp 5) 1, none⟩,
    ⟨some 114, .load 24 (.tmp 113), none⟩,
    ⟨some 115, .move (.tmp 7), none⟩,
    ⟨some 116, .fieldAddr 27 (.tmp 5) 0, none⟩,
    ⟨some 117, .load 3 (.tmp 116), none⟩,
    ⟨some 118, .binOp .sub 3 (.tmp 115) (.tmp 117) 3, none⟩,
    ⟨some 119, .indexAddr 24 (.tmp 114) (.tmp 118), none⟩,
    ⟨some 120, .load 35 (.tmp 119), none⟩,
    ⟨some 18, .alloc 35, none⟩,
    ⟨none, .store 35 (.tmp 18) (.tmp 120), none⟩])
  (.seq
  (.reg [
    ⟨some 122, .load 27 (.tmp 5), none⟩,
    ⟨some 123, .move (.tmp 6), none⟩,
    ⟨some 124, .fieldAddr 35 (.tmp 18) 0, none⟩,
    ⟨some 125, .load 3 (.tmp 124), none⟩,
    ⟨some 126, .call { callee := .value (.func 17), args := #[.tmp 122, .tmp 123, .tmp 125], argTypes := #[27, 3, 3] }, none⟩,
    ⟨some 121, .move (.tmp 126), none⟩,
    ⟨some 127, .extract (.tmp 121) 0, none⟩,
    ⟨some 128, .extract (.tmp 121) 1, none⟩,
    ⟨some 19, .assign (.tmp 127), none⟩,
    ⟨some 20, .assign (.tmp 128), none⟩])
  (.seq
  (.reg [
    ⟨some 130, .load 27 (.tmp 5), none⟩,
    ⟨some 131, .move (.tmp 6), none⟩,
    ⟨some 132, .fieldAddr 35 (.tmp 18) 1, none⟩,
    ⟨some 133, .load 3 (.tmp 132), none⟩,
    ⟨some 134, .call { callee := .value (.func 17), args := #[.tmp 130, .tmp 131, .tmp 133], argTypes := #[27, 3, 3] }, none⟩,
    ⟨some 129, .move (.tmp 134), none⟩,
    ⟨some 135, .extract (.tmp 129) 0, none⟩,
    ⟨some 136, .extract (.tmp 129) 1, none⟩,
    ⟨some 21, .assign (.tmp 135), none⟩,
    ⟨some 22, .assign (.tmp 136), none⟩])
  (.seq
  (.reg [
    ⟨some 137, .move (.tmp 20), none⟩,
    ⟨some 138, .move (.tmp 137), none⟩,
    ⟨some 139, .move (.tmp 22), some (138, true)⟩,
    ⟨some 140, .pick (.tmp 138) (.tmp 139) (.const (.bool false)), none⟩,
    ⟨some 141, .move (.tmp 140), none⟩,
    ⟨some 142, .move (.tmp 8), some (141, true)⟩,
    ⟨some 143, .move (.tmp 19), some (141, true)⟩,
    ⟨some 144, .move (.tmp 21), some (141, true)⟩,
    ⟨some 145, .binOp .add 3 (.tmp 143) (.tmp 144) 3, some (141, true)⟩,
    ⟨some 146, .binOp .eql 3 (.tmp 142) (.tmp 145) 3, some (141, true)⟩,
    ⟨some 147, .pick (.tmp 141) (.tmp 146) (.const (.bool false)), none⟩,
    ⟨some 4, .assign (.tmp 147), none⟩])
  .ret)))))))))))))))
theorem hd3 : Try.f3.body.map dec = some c3 := by kernel_rfl
theorem e3 {R : AV → AH → Prop} {h : AH} (x0 x1 : AV) (H : h.wf → AI Try.prog c3 (RetQ Try.prog [.tmp 4] R) [x0, x1, un, un, un, un, un, un, un, un, un, un, un, un, un, un, un, un, un, un, un, un, un, un, un, un, un, un, un, un, un, un, un, un, un, un, un, un, un, un, un, un, un, un, un, un, un, un, un, un, un, un, un, un, un, un, un, un, un, un, un, un, un, un, un, un, un, un, un, un, un, un, un, un, un, un, un, un, un, un, un, un, un, un, un, un, un, un, un, un, un, un, un, un, un, un, un, un, un, un, un, un, un, un, un, un, un, un, un, un, un, un, un, un, un, un, un, un, un, un, un, un, un, un, un, un, un, un, un, un, un, un, un, un, un, un, un, un, un, un, un, un, un, un, un, un, un, un] h) : AC Try.prog 3 [x0, x1] h R :=
  AC_of' (rs := [.tmp 4]) Try.func3 (by kernel_rfl) hd3 Try.ntmps3 rfl H

end Go.Proofs.Ytdeeeacnmkmeiaa
