/- The short forms of the functions' code, and facts on types. -/
import Derived.Test.YtdcliofmdlhmaaaProg
import Derived.Test.YtdcliofmdlhmaaaD8
namespace Go.Proofs.Ytdcliofmdlhmaaa
open Go.AL
set_option linter.unusedVariables false
theorem sz0 : szT Try.prog 0 = some 1 := by kernel_rfl
theorem by0 : byT Try.prog 0 = some 0 := by kernel_rfl
theorem ag0 : aggT Try.prog 0 = some false := by kernel_rfl
instance jsz0 : Tsz Try.prog 0 1 := ⟨sz0⟩
instance jby0 : Tby Try.prog 0 0 := ⟨by0⟩
instance jag0 : Tag Try.prog 0 false := ⟨ag0⟩
theorem sz1 : szT Try.prog 1 = some 1 := by kernel_rfl
theorem by1 : byT Try.prog 1 = some 8 := by kernel_rfl
theorem ag1 : aggT Try.prog 1 = some false := by kernel_rfl
instance jsz1 : Tsz Try.prog 1 1 := ⟨sz1⟩
instance jby1 : Tby Try.prog 1 8 := ⟨by1⟩
instance jag1 : Tag Try.prog 1 false := ⟨ag1⟩
theorem ze1 : zeroA Try.prog 1 = some .nf := by kernel_rfl
instance jze1 : Tze Try.prog 1 (.nf) := ⟨ze1⟩
theorem sz2 : szT Try.prog 2 = some 1 := by kernel_rfl
theorem by2 : byT Try.prog 2 = some 8 := by kernel_rfl
theorem ag2 : aggT Try.prog 2 = some false := by kernel_rfl
instance jsz2 : Tsz Try.prog 2 1 := ⟨sz2⟩
instance jby2 : Tby Try.prog 2 8 := ⟨by2⟩
instance jag2 : Tag Try.prog 2 false := ⟨ag2⟩
instance jik2 : Tik Try.prog 2 .i64 := ⟨Try.underlying2⟩
theorem ze2 : zeroA Try.prog 2 = some (.i .i64 0) := by kernel_rfl
instance jze2 : Tze Try.prog 2 (.i .i64 0) := ⟨ze2⟩
theorem sz3 : szT Try.prog 3 = some 1 := by kernel_rfl
theorem by3 : byT Try.prog 3 = some 8 := by kernel_rfl
theorem ag3 : aggT Try.prog 3 = some false := by kernel_rfl
instance jsz3 : Tsz Try.prog 3 1 := ⟨sz3⟩
instance jby3 : Tby Try.prog 3 8 := ⟨by3⟩
instance jag3 : Tag Try.prog 3 false := ⟨ag3⟩
instance jik3 : Tik Try.prog 3 .i64 := ⟨Try.underlying3⟩
theorem ze3 : zeroA Try.prog 3 = some (.i .i64 0) := by kernel_rfl
instance jze3 : Tze Try.prog 3 (.i .i64 0) := ⟨ze3⟩
theorem sz4 : szT Try.prog 4 = some 1 := by kernel_rfl
theorem by4 : byT Try.prog 4 = some 1 := by kernel_rfl
theorem ag4 : aggT Try.prog 4 = some false := by kernel_rfl
instance jsz4 : Tsz Try.prog 4 1 := ⟨sz4⟩
instance jby4 : Tby Try.prog 4 1 := ⟨by4⟩
instance jag4 : Tag Try.prog 4 false := ⟨ag4⟩
instance jbo4 : Tbo Try.prog 4 := ⟨Try.underlying4⟩
theorem ze4 : zeroA Try.prog 4 = some (.b false) := by kernel_rfl
instance jze4 : Tze Try.prog 4 (.b false) := ⟨ze4⟩
theorem sz5 : szT Try.prog 5 = some 1 := by kernel_rfl
theorem by5 : byT Try.prog 5 = some 1 := by kernel_rfl
theorem ag5 : aggT Try.prog 5 = some false := by kernel_rfl
instance jsz5 : Tsz Try.prog 5 1 := ⟨sz5⟩
instance jby5 : Tby Try.prog 5 1 := ⟨by5⟩
instance jag5 : Tag Try.prog 5 false := ⟨ag5⟩
instance jik5 : Tik Try.prog 5 .u8 := ⟨Try.underlying5⟩
theorem ze5 : zeroA Try.prog 5 = some (.i .u8 0) := by kernel_rfl
instance jze5 : Tze Try.prog 5 (.i .u8 0) := ⟨ze5⟩
theorem sz9 : szT Try.prog 9 = some 1 := by kernel_rfl
theorem by9 : byT Try.prog 9 = some 16 := by kernel_rfl
theorem ag9 : aggT Try.prog 9 = some false := by kernel_rfl
instance jsz9 : Tsz Try.prog 9 1 := ⟨sz9⟩
instance jby9 : Tby Try.prog 9 16 := ⟨by9⟩
instance jag9 : Tag Try.prog 9 false := ⟨ag9⟩
instance jst9 : Tst Try.prog 9 := ⟨Try.underlying9⟩
theorem ze9 : zeroA Try.prog 9 = some (.s ⟨#[]⟩) := by kernel_rfl
instance jze9 : Tze Try.prog 9 (.s ⟨#[]⟩) := ⟨ze9⟩
theorem sz24 : szT Try.prog 24 = some 1 := by kernel_rfl
theorem by24 : byT Try.prog 24 = some 8 := by kernel_rfl
theorem ag24 : aggT Try.prog 24 = some false := by kernel_rfl
instance jsz24 : Tsz Try.prog 24 1 := ⟨sz24⟩
instance jby24 : Tby Try.prog 24 8 := ⟨by24⟩
instance jag24 : Tag Try.prog 24 false := ⟨ag24⟩
theorem ze24 : zeroA Try.prog 24 = some .nf := by kernel_rfl
instance jze24 : Tze Try.prog 24 (.nf) := ⟨ze24⟩
theorem sz25 : szT Try.prog 25 = some 1 := by kernel_rfl
theorem by25 : byT Try.prog 25 = some 24 := by kernel_rfl
theorem ag25 : aggT Try.prog 25 = some false := by kernel_rfl
instance jsz25 : Tsz Try.prog 25 1 := ⟨sz25⟩
instance jby25 : Tby Try.prog 25 24 := ⟨by25⟩
instance jag25 : Tag Try.prog 25 false := ⟨ag25⟩
instance jsl25 : Tsl Try.prog 25 5 := ⟨Try.underlying25⟩
theorem ze25 : zeroA Try.prog 25 = some .ns := by kernel_rfl
instance jze25 : Tze Try.prog 25 (.ns) := ⟨ze25⟩
theorem sz28 : szT Try.prog 28 = some 1 := by kernel_rfl
theorem by28 : byT Try.prog 28 = some 24 := by kernel_rfl
theorem ag28 : aggT Try.prog 28 = some false := by kernel_rfl
instance jsz28 : Tsz Try.prog 28 1 := ⟨sz28⟩
instance jby28 : Tby Try.prog 28 24 := ⟨by28⟩
instance jag28 : Tag Try.prog 28 false := ⟨ag28⟩
instance jsl28 : Tsl Try.prog 28 108 := ⟨Try.underlying28⟩
theorem ze28 : zeroA Try.prog 28 = some .ns := by kernel_rfl
instance jze28 : Tze Try.prog 28 (.ns) := ⟨ze28⟩
theorem sz29 : szT Try.prog 29 = some 1 := by kernel_rfl
theorem by29 : byT Try.prog 29 = some 24 := by kernel_rfl
theorem ag29 : aggT Try.prog 29 = some false := by kernel_rfl
instance jsz29 : Tsz Try.prog 29 1 := ⟨sz29⟩
instance jby29 : Tby Try.prog 29 24 := ⟨by29⟩
instance jag29 : Tag Try.prog 29 false := ⟨ag29⟩
instance jsl29 : Tsl Try.prog 29 3 := ⟨Try.underlying29⟩
theorem ze29 : zeroA Try.prog 29 = some .ns := by kernel_rfl
instance jze29 : Tze Try.prog 29 (.ns) := ⟨ze29⟩
theorem sz31 : szT Try.prog 31 = some 3 := by kernel_rfl
theorem by31 : byT Try.prog 31 = some 56 := by kernel_rfl
theorem ag31 : aggT Try.prog 31 = some true := by kernel_rfl
instance jsz31 : Tsz Try.prog 31 3 := ⟨sz31⟩
instance jby31 : Tby Try.prog 31 56 := ⟨by31⟩
instance jag31 : Tag Try.prog 31 true := ⟨ag31⟩
theorem ze31 : zeroA Try.prog 31 = some (.agg [(.i .i64 0), .ns, .ns]) := by kernel_rfl
instance jze31 : Tze Try.prog 31 (.agg [(.i .i64 0), .ns, .ns]) := ⟨ze31⟩
theorem fl31_0 : fldA Try.prog 31 0 = some (0, 1, false) := by kernel_rfl
instance jfl31_0 : Tfl Try.prog 31 0 0 1 false := ⟨fl31_0⟩
theorem fl31_1 : fldA Try.prog 31 1 = some (1, 1, false) := by kernel_rfl
instance jfl31_1 : Tfl Try.prog 31 1 1 1 false := ⟨fl31_1⟩
theorem fl31_2 : fldA Try.prog 31 2 = some (2, 1, false) := by kernel_rfl
instance jfl31_2 : Tfl Try.prog 31 2 2 1 false := ⟨fl31_2⟩
theorem pa31 : plA Try.prog 31 = some [(0, 1), (1, 1), (2, 1)] := by kernel_rfl
instance jpl31 : Tpl Try.prog 31 [(0, 1), (1, 1), (2, 1)] := ⟨pa31⟩
theorem sz39 : szT Try.prog 39 = some 1 := by kernel_rfl
theorem by39 : byT Try.prog 39 = some 24 := by kernel_rfl
theorem ag39 : aggT Try.prog 39 = some false := by kernel_rfl
instance jsz39 : Tsz Try.prog 39 1 := ⟨sz39⟩
instance jby39 : Tby Try.prog 39 24 := ⟨by39⟩
instance jag39 : Tag Try.prog 39 false := ⟨ag39⟩
instance jsl39 : Tsl Try.prog 39 29 := ⟨Try.underlying39⟩
theorem ze39 : zeroA Try.prog 39 = some .ns := by kernel_rfl
instance jze39 : Tze Try.prog 39 (.ns) := ⟨ze39⟩
theorem sz42 : szT Try.prog 42 = some 1 := by kernel_rfl
theorem by42 : byT Try.prog 42 = some 24 := by kernel_rfl
theorem ag42 : aggT Try.prog 42 = some false := by kernel_rfl
instance jsz42 : Tsz Try.prog 42 1 := ⟨sz42⟩
instance jby42 : Tby Try.prog 42 24 := ⟨by42⟩
instance jag42 : Tag Try.prog 42 false := ⟨ag42⟩
instance jsl42 : Tsl Try.prog 42 125 := ⟨Try.underlying42⟩
theorem ze42 : zeroA Try.prog 42 = some .ns := by kernel_rfl
instance jze42 : Tze Try.prog 42 (.ns) := ⟨ze42⟩
theorem sz44 : szT Try.prog 44 = some 3 := by kernel_rfl
theorem by44 : byT Try.prog 44 = some 56 := by kernel_rfl
theorem ag44 : aggT Try.prog 44 = some true := by kernel_rfl
instance jsz44 : Tsz Try.prog 44 3 := ⟨sz44⟩
instance jby44 : Tby Try.prog 44 56 := ⟨by44⟩
instance jag44 : Tag Try.prog 44 true := ⟨ag44⟩
theorem ze44 : zeroA Try.prog 44 = some (.agg [(.i .i64 0), .ns, .ns]) := by kernel_rfl
instance jze44 : Tze Try.prog 44 (.agg [(.i .i64 0), .ns, .ns]) := ⟨ze44⟩
theorem fl44_0 : fldA Try.prog 44 0 = some (0, 1, false) := by kernel_rfl
instance jfl44_0 : Tfl Try.prog 44 0 0 1 false := ⟨fl44_0⟩
theorem fl44_1 : fldA Try.prog 44 1 = some (1, 1, false) := by kernel_rfl
instance jfl44_1 : Tfl Try.prog 44 1 1 1 false := ⟨fl44_1⟩
theorem fl44_2 : fldA Try.prog 44 2 = some (2, 1, false) := by kernel_rfl
instance jfl44_2 : Tfl Try.prog 44 2 2 1 false := ⟨fl44_2⟩
theorem pa44 : plA Try.prog 44 = some [(0, 1), (1, 1), (2, 1)] := by kernel_rfl
instance jpl44 : Tpl Try.prog 44 [(0, 1), (1, 1), (2, 1)] := ⟨pa44⟩
theorem sz54 : szT Try.prog 54 = some 1 := by kernel_rfl
theorem by54 : byT Try.prog 54 = some 8 := by kernel_rfl
theorem ag54 : aggT Try.prog 54 = some false := by kernel_rfl
instance jsz54 : Tsz Try.prog 54 1 := ⟨sz54⟩
instance jby54 : Tby Try.prog 54 8 := ⟨by54⟩
instance jag54 : Tag Try.prog 54 false := ⟨ag54⟩
theorem ze54 : zeroA Try.prog 54 = some .nf := by kernel_rfl
instance jze54 : Tze Try.prog 54 (.nf) := ⟨ze54⟩
theorem sz58 : szT Try.prog 58 = some 1 := by kernel_rfl
theorem by58 : byT Try.prog 58 = some 24 := by kernel_rfl
theorem ag58 : aggT Try.prog 58 = some false := by kernel_rfl
instance jsz58 : Tsz Try.prog 58 1 := ⟨sz58⟩
instance jby58 : Tby Try.prog 58 24 := ⟨by58⟩
instance jag58 : Tag Try.prog 58 false := ⟨ag58⟩
instance jsl58 : Tsl Try.prog 58 9 := ⟨Try.underlying58⟩
theorem ze58 : zeroA Try.prog 58 = some .ns := by kernel_rfl
instance jze58 : Tze Try.prog 58 (.ns) := ⟨ze58⟩
theorem sz78 : szT Try.prog 78 = some 1 := by kernel_rfl
theorem by78 : byT Try.prog 78 = some 8 := by kernel_rfl
theorem ag78 : aggT Try.prog 78 = some false := by kernel_rfl
instance jsz78 : Tsz Try.prog 78 1 := ⟨sz78⟩
instance jby78 : Tby Try.prog 78 8 := ⟨by78⟩
instance jag78 : Tag Try.prog 78 false := ⟨ag78⟩
theorem ze78 : zeroA Try.prog 78 = some .nf := by kernel_rfl
instance jze78 : Tze Try.prog 78 (.nf) := ⟨ze78⟩
theorem sz87 : szT Try.prog 87 = some 1 := by kernel_rfl
theorem by87 : byT Try.prog 87 = some 8 := by kernel_rfl
theorem ag87 : aggT Try.prog 87 = some false := by kernel_rfl
instance jsz87 : Tsz Try.prog 87 1 := ⟨sz87⟩
instance jby87 : Tby Try.prog 87 8 := ⟨by87⟩
instance jag87 : Tag Try.prog 87 false := ⟨ag87⟩
theorem ze87 : zeroA Try.prog 87 = some .np := by kernel_rfl
instance jze87 : Tze Try.prog 87 (.np) := ⟨ze87⟩
theorem sz108 : szT Try.prog 108 = some 2 := by kernel_rfl
theorem by108 : byT Try.prog 108 = some 16 := by kernel_rfl
theorem ag108 : aggT Try.prog 108 = some true := by kernel_rfl
instance jsz108 : Tsz Try.prog 108 2 := ⟨sz108⟩
instance jby108 : Tby Try.prog 108 16 := ⟨by108⟩
instance jag108 : Tag Try.prog 108 true := ⟨ag108⟩
theorem ze108 : zeroA Try.prog 108 = some (.agg [(.i .i64 0), (.i .i64 0)]) := by kernel_rfl
instance jze108 : Tze Try.prog 108 (.agg [(.i .i64 0), (.i .i64 0)]) := ⟨ze108⟩
theorem fl108_0 : fldA Try.prog 108 0 = some (0, 1, false) := by kernel_rfl
instance jfl108_0 : Tfl Try.prog 108 0 0 1 false := ⟨fl108_0⟩
theorem fl108_1 : fldA Try.prog 108 1 = some (1, 1, false) := by kernel_rfl
instance jfl108_1 : Tfl Try.prog 108 1 1 1 false := ⟨fl108_1⟩
theorem pa108 : plA Try.prog 108 = some [(0, 1), (1, 1)] := by kernel_rfl
instance jpl108 : Tpl Try.prog 108 [(0, 1), (1, 1)] := ⟨pa108⟩
theorem sz118 : szT Try.prog 118 = some 1 := by kernel_rfl
theorem by118 : byT Try.prog 118 = some 8 := by kernel_rfl
theorem ag118 : aggT Try.prog 118 = some false := by kernel_rfl
instance jsz118 : Tsz Try.prog 118 1 := ⟨sz118⟩
instance jby118 : Tby Try.prog 118 8 := ⟨by118⟩
instance jag118 : Tag Try.prog 118 false := ⟨ag118⟩
theorem ze118 : zeroA Try.prog 118 = some .nf := by kernel_rfl
instance jze118 : Tze Try.prog 118 (.nf) := ⟨ze118⟩
theorem sz125 : szT Try.prog 125 = some 2 := by kernel_rfl
theorem by125 : byT Try.prog 125 = some 16 := by kernel_rfl
theorem ag125 : aggT Try.prog 125 = some true := by kernel_rfl
instance jsz125 : Tsz Try.prog 125 2 := ⟨sz125⟩
instance jby125 : Tby Try.prog 125 16 := ⟨by125⟩
instance jag125 : Tag Try.prog 125 true := ⟨ag125⟩
theorem ze125 : zeroA Try.prog 125 = some (.agg [(.i .i64 0), (.i .i64 0)]) := by kernel_rfl
instance jze125 : Tze Try.prog 125 (.agg [(.i .i64 0), (.i .i64 0)]) := ⟨ze125⟩
theorem fl125_0 : fldA Try.prog 125 0 = some (0, 1, false) := by kernel_rfl
instance jfl125_0 : Tfl Try.prog 125 0 0 1 false := ⟨fl125_0⟩
theorem fl125_1 : fldA Try.prog 125 1 = some (1, 1, false) := by kernel_rfl
instance jfl125_1 : Tfl Try.prog 125 1 1 1 false := ⟨fl125_1⟩
theorem pa125 : plA Try.prog 125 = some [(0, 1), (1, 1)] := by kernel_rfl
instance jpl125 : Tpl Try.prog 125 [(0, 1), (1, 1)] := ⟨pa125⟩
theorem sz137 : szT Try.prog 137 = some 1 := by kernel_rfl
theorem by137 : byT Try.prog 137 = some 8 := by kernel_rfl
theorem ag137 : aggT Try.prog 137 = some false := by kernel_rfl
instance jsz137 : Tsz Try.prog 137 1 := ⟨sz137⟩
instance jby137 : Tby Try.prog 137 8 := ⟨by137⟩
instance jag137 : Tag Try.prog 137 false := ⟨ag137⟩
theorem ze137 : zeroA Try.prog 137 = some .np := by kernel_rfl
instance jze137 : Tze Try.prog 137 (.np) := ⟨ze137⟩
theorem sz139 : szT Try.prog 139 = some 2 := by kernel_rfl
theorem by139 : byT Try.prog 139 = some 32 := by kernel_rfl
theorem ag139 : aggT Try.prog 139 = some true := by kernel_rfl
instance jsz139 : Tsz Try.prog 139 2 := ⟨sz139⟩
instance jby139 : Tby Try.prog 139 32 := ⟨by139⟩
instance jag139 : Tag Try.prog 139 true := ⟨ag139⟩
theorem ze139 : zeroA Try.prog 139 = some (.agg [.np, .ns]) := by kernel_rfl
instance jze139 : Tze Try.prog 139 (.agg [.np, .ns]) := ⟨ze139⟩
theorem fl139_0 : fldA Try.prog 139 0 = some (0, 1, false) := by kernel_rfl
instance jfl139_0 : Tfl Try.prog 139 0 0 1 false := ⟨fl139_0⟩
theorem fl139_1 : fldA Try.prog 139 1 = some (1, 1, false) := by kernel_rfl
instance jfl139_1 : Tfl Try.prog 139 1 1 1 false := ⟨fl139_1⟩
theorem pa139 : plA Try.prog 139 = some [(0, 1), (1, 1)] := by kernel_rfl
instance jpl139 : Tpl Try.prog 139 [(0, 1), (1, 1)] := ⟨pa139⟩
theorem sz147 : szT Try.prog 147 = some 1 := by kernel_rfl
theorem by147 : byT Try.prog 147 = some 8 := by kernel_rfl
theorem ag147 : aggT Try.prog 147 = some false := by kernel_rfl
instance jsz147 : Tsz Try.prog 147 1 := ⟨sz147⟩
instance jby147 : Tby Try.prog 147 8 := ⟨by147⟩
instance jag147 : Tag Try.prog 147 false := ⟨ag147⟩
theorem ze147 : zeroA Try.prog 147 = some .np := by kernel_rfl
instance jze147 : Tze Try.prog 147 (.np) := ⟨ze147⟩
theorem sz148 : szT Try.prog 148 = some 1 := by kernel_rfl
theorem by148 : byT Try.prog 148 = some 8 := by kernel_rfl
theorem ag148 : aggT Try.prog 148 = some false := by kernel_rfl
instance jsz148 : Tsz Try.prog 148 1 := ⟨sz148⟩
instance jby148 : Tby Try.prog 148 8 := ⟨by148⟩
instance jag148 : Tag Try.prog 148 false := ⟨ag148⟩
theorem ze148 : zeroA Try.prog 148 = some .np := by kernel_rfl
instance jze148 : Tze Try.prog 148 (.np) := ⟨ze148⟩

noncomputable def rg45_0 : Array Oper := rawAt Try.f45 0
/-- laws.eqIntS -/
noncomputable def c45 : IC :=
  (.seq
  (.reg [
    ⟨some 4, .assign (.const (.bool false)), none⟩])
  (.seq
  (.seq
  (.reg [
    ⟨some 6, .move (.tmp 0), none⟩,
    ⟨some 7, .call { callee := .builtin .len, args := #[.tmp 6], argTypes := #[29] }, none⟩,
    ⟨some 8, .move (.tmp 1), none⟩,
    ⟨some 9, .call { callee := .builtin .len, args := #[.tmp 8], argTypes := #[29] }, none⟩,
    ⟨some 10, .binOp .neq 3 (.tmp 7) (.tmp 9) 3, none⟩])
  (.cond (.tmp 10)
    (.seq
    (.reg [
      ⟨some 4, .assign (.const (.bool false)), none⟩])
    .ret)
    .skip))
  (.seq
  (.seq
  (.reg [
    ⟨some 5, .assign (.const (.int .i64 0)), none⟩])
  (.block 0
  (.loop
    (.seq
    (.seq
    (.reg [
      ⟨some 11, .move (.tmp 5), none⟩,
      ⟨some 12, .move (.tmp 0), none⟩,
      ⟨some 13, .call { callee := .builtin .len, args := #[.tmp 12], argTypes := #[29] }, none⟩,
      ⟨some 14, .binOp .lss 3 (.tmp 11) (.tmp 13) 3, none⟩])
    (.cond (.tmp 14)
      .skip
      (.exit 0)))
    (.seq
    (.block 1
    (.seq
    (.raw (.region 6 rg45_0 true))
    (.cond (.tmp 25)
      (.seq
      (.reg [
        ⟨some 4, .assign (.const (.bool false)), none⟩])
      .ret)
      .skip)))
    (.reg [
      ⟨some 15, .move (.tmp 5), none⟩,
      ⟨some 16, .binOp .add 3 (.tmp 15) (.const (.int .i64 1)) 3, none⟩,
      ⟨some 5, .assign (.tmp 16), none⟩]))))))
  (.seq
  (.reg [
    ⟨some 4, .assign (.const (.bool true)), none⟩])
  .ret))))
theorem hd45 : Try.f45.body.map dec = some c45 := by kernel_rfl
theorem e45 {R : AV → AH → Prop} {h : AH} (x0 x1 : AV) (H : h.wf → AI Try.prog c45 (RetQ Try.prog [.tmp 4] R) [x0, x1, un, un, un, un, un, un, un, un, un, un, un, un, un, un, un, un, un, un, un, un, un, un, un, un] h) : AC Try.prog 45 [x0, x1] h R :=
  AC_of' (rs := [.tmp 4]) Try.func45 (by kernel_rfl) hd45 Try.ntmps45 rfl H
theorem dz45_0 {h0 : AH} {L : List It} {Q : Exit → List AV → List It → Prop} {a : List AV} {id : Nat} (H : LX Try.prog ⟨[], []⟩ h0 L L (.c (⟨some 17, .move (.tmp 0), none⟩, .p) <| .c (⟨some 18, .move (.tmp 5), none⟩, .p) <| .c (⟨some 19, .indexAddr 29 (.tmp 17) (.tmp 18), none⟩, .p) <| .c (⟨some 20, .load 3 (.tmp 19), none⟩, .l) <| .c (⟨some 21, .move (.tmp 1), none⟩, .p) <| .c (⟨some 22, .move (.tmp 5), none⟩, .p) <| .c (⟨some 23, .indexAddr 29 (.tmp 21) (.tmp 22), none⟩, .p) <| .c (⟨some 24, .load 3 (.tmp 23), none⟩, .l) <| .c (⟨some 25, .binOp .neq 3 (.tmp 20) (.tmp 24) 3, none⟩, .p) <| .n) Q a) : LI Try.prog h0 L (.raw (.region id rg45_0 true)) Q a :=
  LI_draw (.c (0, .p) <| .c (1, .p) <| .c (2, .p) <| .c (3, .l) <| .c (4, .p) <| .c (5, .p) <| .c (6, .p) <| .c (7, .l) <| .c (8, .p) <| .n) [] (by kernel_rfl) (by kernel_rfl) (by kernel_rfl) H
theorem dr45_0 (m : Nat) {Q : Exit → List AV → AH → Prop} {a : List AV} {h : AH} {id : Nat} (H : AX Try.prog m h [(⟨some 17, .move (.tmp 0), none⟩, true),
  (⟨some 18, .move (.tmp 5), none⟩, true),
  (⟨some 19, .indexAddr 29 (.tmp 17) (.tmp 18), none⟩, true),
  (⟨some 20, .load 3 (.tmp 19), none⟩, true),
  (⟨some 21, .move (.tmp 1), none⟩, true),
  (⟨some 22, .move (.tmp 5), none⟩, true),
  (⟨some 23, .indexAddr 29 (.tmp 21) (.tmp 22), none⟩, true),
  (⟨some 24, .load 3 (.tmp 23), none⟩, true),
  (⟨some 25, .binOp .neq 3 (.tmp 20) (.tmp 24) 3, none⟩, true)] (fun a' h' => Q .normal a' h') a h) : AI Try.prog (.raw (.region id rg45_0 true)) Q a h :=
  AI_draw [(0, true), (1, true), (2, true), (3, true), (4, true), (5, true), (6, true), (7, true), (8, true)] m (by kernel_rfl) (by kernel_rfl) (by kernel_rfl) H

/-- laws.eqStep -/
def c128 : IC :=
  (.seq
  (.reg [
    ⟨some 2, .box 108 (.tmp 0), none⟩,
    ⟨some 3, .box 108 (.tmp 1), none⟩,
    ⟨some 4, .assign (.const (.bool false)), none⟩])
  (.seq
  (.seq
  (.reg [
    ⟨some 5, .fieldAddr 108 (.tmp 2) 0, none⟩,
    ⟨some 6, .load 3 (.tmp 5), none⟩,
    ⟨some 7, .fieldAddr 108 (.tmp 3) 0, none⟩,
    ⟨some 8, .load 3 (.tmp 7), none⟩,
    ⟨some 9, .binOp .neq 3 (.tmp 6) (.tmp 8) 3, none⟩])
  (.cond (.tmp 9)
    (.seq
    (.reg [
      ⟨some 4, .assign (.const (.bool false)), none⟩])
    .ret)
    .skip))
  (.seq
  (.seq
  (.reg [
    ⟨some 10, .fieldAddr 108 (.tmp 2) 1, none⟩,
    ⟨some 11, .load 3 (.tmp 10), none⟩,
    ⟨some 12, .fieldAddr 108 (.tmp 3) 1, none⟩,
    ⟨some 13, .load 3 (.tmp 12), none⟩,
    ⟨some 14, .binOp .neq 3 (.tmp 11) (.tmp 13) 3, none⟩])
  (.cond (.tmp 14)
    (.seq
    (.reg [
      ⟨some 4, .assign (.const (.bool false)), none⟩])
    .ret)
    .skip))
  (.seq
  (.reg [
    ⟨some 4, .assign (.const (.bool true)), none⟩])
  .ret))))
theorem hd128 : Try.f128.body.map dec = some c128 := by kernel_rfl
theorem e128 {R : AV → AH → Prop} {h : AH} (x0 x1 : AV) (H : h.wf → AI Try.prog c128 (RetQ Try.prog [.tmp 4] R) [x0, x1, un, un, un, un, un, un, un, un, un, un, un, un, un] h) : AC Try.prog 128 [x0, x1] h R :=
  AC_of' (rs := [.tmp 4]) Try.func128 (by kernel_rfl) hd128 Try.ntmps128 rfl H

noncomputable def rg70_0 : Array Oper := rawAt Try.f70 0
/-- laws.eqStepS -/
noncomputable def c70 : IC :=
  (.seq
  (.reg [
    ⟨some 4, .assign (.const (.bool false)), none⟩])
  (.seq
  (.seq
  (.reg [
    ⟨some 6, .move (.tmp 0), none⟩,
    ⟨some 7, .call { callee := .builtin .len, args := #[.tmp 6], argTypes := #[28] }, none⟩,
    ⟨some 8, .move (.tmp 1), none⟩,
    ⟨some 9, .call { callee := .builtin .len, args := #[.tmp 8], argTypes := #[28] }, none⟩,
    ⟨some 10, .binOp .neq 3 (.tmp 7) (.tmp 9) 3, none⟩])
  (.cond (.tmp 10)
    (.seq
    (.reg [
      ⟨some 4, .assign (.const (.bool false)), none⟩])
    .ret)
    .skip))
  (.seq
  (.seq
  (.reg [
    ⟨some 5, .assign (.const (.int .i64 0)), none⟩])
  (.block 0
  (.loop
    (.seq
    (.seq
    (.reg [
      ⟨some 11, .move (.tmp 5), none⟩,
      ⟨some 12, .move (.tmp 0), none⟩,
      ⟨some 13, .call { callee := .builtin .len, args := #[.tmp 12], argTypes := #[28] }, none⟩,
      ⟨some 14, .binOp .lss 3 (.tmp 11) (.tmp 13) 3, none⟩])
    (.cond (.tmp 14)
      .skip
      (.exit 0)))
    (.seq
    (.block 1
    (.seq
    (.raw (.region 6 rg70_0 true))
    (.cond (.tmp 26)
      (.seq
      (.reg [
        ⟨some 4, .assign (.const (.bool false)), none⟩])
      .ret)
      .skip)))
    (.reg [
      ⟨some 15, .move (.tmp 5), none⟩,
      ⟨some 16, .binOp .add 3 (.tmp 15) (.const (.int .i64 1)) 3, none⟩,
      ⟨some 5, .assign (.tmp 16), none⟩]))))))
  (.seq
  (.reg [
    ⟨some 4, .assign (.const (.bool true)), none⟩])
  .ret))))
theorem hd70 : Try.f70.body.map dec = some c70 := by kernel_rfl
theorem e70 {R : AV → AH → Prop} {h : AH} (x0 x1 : AV) (H : h.wf → AI Try.prog c70 (RetQ Try.prog [.tmp 4] R) [x0, x1, un, un, un, un, un, un, un, un, un, un, un, un, un, un, un, un, un, un, un, un, un, un, un, un, un] h) : AC Try.prog 70 [x0, x1] h R :=
  AC_of' (rs := [.tmp 4]) Try.func70 (by kernel_rfl) hd70 Try.ntmps70 rfl H
theorem dz70_0 {h0 : AH} {L : List It} {Q : Exit → List AV → List It → Prop} {a : List AV} {id : Nat} (H : LX Try.prog ⟨[], []⟩ h0 L L (.c (⟨some 17, .move (.tmp 0), none⟩, .p) <| .c (⟨some 18, .move (.tmp 5), none⟩, .p) <| .c (⟨some 19, .indexAddr 28 (.tmp 17) (.tmp 18), none⟩, .p) <| .c (⟨some 20, .load 108 (.tmp 19), none⟩, .l) <| .c (⟨some 21, .move (.tmp 1), none⟩, .p) <| .c (⟨some 22, .move (.tmp 5), none⟩, .p) <| .c (⟨some 23, .indexAddr 28 (.tmp 21) (.tmp 22), none⟩, .p) <| .c (⟨some 24, .load 108 (.tmp 23), none⟩, .l) <| .c (⟨some 25, .call { callee := .value (.func 128), args := #[.tmp 20, .tmp 24], argTypes := #[108, 108] }, none⟩, .e) <| .c (⟨some 26, .unOp .not 4 (.tmp 25), none⟩, .p) <| .n) Q a) : LI Try.prog h0 L (.raw (.region id rg70_0 true)) Q a :=
  LI_draw (.c (0, .p) <| .c (1, .p) <| .c (2, .p) <| .c (3, .l) <| .c (4, .p) <| .c (5, .p) <| .c (6, .p) <| .c (7, .l) <| .c (8, .e) <| .c (9, .p) <| .n) [] (by kernel_rfl) (by kernel_rfl) (by kernel_rfl) H
theorem dy70_0 {h0 : AH} {L : List It} {Q : Exit → List AV → List It → Prop} {a : List AV} {id : Nat} (H : LX Try.prog ⟨[8], []⟩ h0 L L (.c (⟨some 17, .move (.tmp 0), none⟩, .p) <| .c (⟨some 18, .move (.tmp 5), none⟩, .p) <| .c (⟨some 19, .indexAddr 28 (.tmp 17) (.tmp 18), none⟩, .p) <| .c (⟨some 20, .load 108 (.tmp 19), none⟩, .l) <| .c (⟨some 21, .move (.tmp 1), none⟩, .p) <| .c (⟨some 22, .move (.tmp 5), none⟩, .p) <| .c (⟨some 23, .indexAddr 28 (.tmp 21) (.tmp 22), none⟩, .p) <| .c (⟨some 24, .load 108 (.tmp 23), none⟩, .l) <| .c (⟨some 25, .call { callee := .value (.func 128), args := #[.tmp 20, .tmp 24], argTypes := #[108, 108] }, none⟩, .f) <| .c (⟨some 26, .unOp .not 4 (.tmp 25), none⟩, .p) <| .n) Q a) : LI Try.prog h0 L (.raw (.region id rg70_0 true)) Q a :=
  LI_draw (.c (0, .p) <| .c (1, .p) <| .c (2, .p) <| .c (3, .l) <| .c (4, .p) <| .c (5, .p) <| .c (6, .p) <| .c (7, .l) <| .c (8, .f) <| .c (9, .p) <| .n) [8] (by kernel_rfl) (by kernel_rfl) (by kernel_rfl) H
theorem dr70_0 (m : Nat) {Q : Exit → List AV → AH → Prop} {a : List AV} {h : AH} {id : Nat} (H : AX Try.prog m h [(⟨some 17, .move (.tmp 0), none⟩, true),
  (⟨some 18, .move (.tmp 5), none⟩, true),
  (⟨some 19, .indexAddr 28 (.tmp 17) (.tmp 18), none⟩, true),
  (⟨some 20, .load 108 (.tmp 19), none⟩, true),
  (⟨some 21, .move (.tmp 1), none⟩, true),
  (⟨some 22, .move (.tmp 5), none⟩, true),
  (⟨some 23, .indexAddr 28 (.tmp 21) (.tmp 22), none⟩, true),
  (⟨some 24, .load 108 (.tmp 23), none⟩, true),
  (⟨some 25, .call { callee := .value (.func 128), args := #[.tmp 20, .tmp 24], argTypes := #[108, 108] }, none⟩, false),
  (⟨some 26, .unOp .not 4 (.tmp 25), none⟩, true)] (fun a' h' => Q .normal a' h') a h) : AI Try.prog (.raw (.region id rg70_0 true)) Q a h :=
  AI_draw [(0, true), (1, true), (2, true), (3, true), (4, true), (5, true), (6, true), (7, true), (8, false), (9, true)] m (by kernel_rfl) (by kernel_rfl) (by kernel_rfl) H

/-- laws.eqPlan -/
def c24 : IC :=
  (.seq
  (.reg [
    ⟨some 2, .box 31 (.tmp 0), none⟩,
    ⟨some 3, .box 31 (.tmp 1), none⟩,
    ⟨some 4, .assign (.const (.bool false)), none⟩])
  (.seq
  (.seq
  (.reg [
    ⟨some 5, .fieldAddr 31 (.tmp 2) 0, none⟩,
    ⟨some 6, .load 3 (.tmp 5), none⟩,
    ⟨some 7, .fieldAddr 31 (.tmp 3) 0, none⟩,
    ⟨some 8, .load 3 (.tmp 7), none⟩,
    ⟨some 9, .binOp .neq 3 (.tmp 6) (.tmp 8) 3, none⟩])
  (.cond (.tmp 9)
    (.seq
    (.reg [
      ⟨some 4, .assign (.const (.bool false)), none⟩])
    .ret)
    .skip))
  (.seq
  (.seq
  (.reg [
    ⟨some 10, .fieldAddr 31 (.tmp 2) 1, none⟩,
    ⟨some 11, .load 28 (.tmp 10), none⟩,
    ⟨some 12, .fieldAddr 31 (.tmp 3) 1, none⟩,
    ⟨some 13, .load 28 (.tmp 12), none⟩,
    ⟨some 14, .call { callee := .value (.func 70), args := #[.tmp 11, .tmp 13], argTypes := #[28, 28] }, none⟩,
    ⟨some 15, .unOp .not 4 (.tmp 14), none⟩])
  (.cond (.tmp 15)
    (.seq
    (.reg [
      ⟨some 4, .assign (.const (.bool false)), none⟩])
    .ret)
    .skip))
  (.seq
  (.seq
  (.reg [
    ⟨some 16, .fieldAddr 31 (.tmp 2) 2, none⟩,
    ⟨some 17, .load 29 (.tmp 16), none⟩,
    ⟨some 18, .fieldAddr 31 (.tmp 3) 2, none⟩,
    ⟨some 19, .load 29 (.tmp 18), none⟩,
    ⟨some 20, .call { callee := .value (.func 45), args := #[.tmp 17, .tmp 19], argTypes := #[29, 29] }, none⟩,
    ⟨some 21, .unOp .not 4 (.tmp 20), none⟩])
  (.cond (.tmp 21)
    (.seq
    (.reg [
      ⟨some 4, .assign (.const (.bool false)), none⟩])
    .ret)
    .skip))
  (.seq
  (.reg [
    ⟨some 4, .assign (.const (.bool true)), none⟩])
  .ret)))))
theorem hd24 : Try.f24.body.map dec = some c24 := by kernel_rfl
theorem e24 {R : AV → AH → Prop} {h : AH} (x0 x1 : AV) (H : h.wf → AI Try.prog c24 (RetQ Try.prog [.tmp 4] R) [x0, x1, un, un, un, un, un, un, un, un, un, un, un, un, un, un, un, un, un, un, un, un] h) : AC Try.prog 24 [x0, x1] h R :=
  AC_of' (rs := [.tmp 4]) Try.func24 (by kernel_rfl) hd24 Try.ntmps24 rfl H

/-- laws.markIntS -/
def c46 : IC :=
  (.seq
  (.reg [
    ⟨some 4, .assign (.const (.int .i64 0)), none⟩])
  (.seq
  (.seq
  (.reg [
    ⟨some 5, .assign (.const (.int .i64 0)), none⟩])
  (.block 0
  (.loop
    (.seq
    (.seq
    (.reg [
      ⟨some 6, .move (.tmp 5), none⟩,
      ⟨some 7, .move (.tmp 0), none⟩,
      ⟨some 8, .call { callee := .builtin .len, args := #[.tmp 7], argTypes := #[29] }, none⟩,
      ⟨some 9, .binOp .lss 3 (.tmp 6) (.tmp 8) 3, none⟩])
    (.cond (.tmp 9)
      .skip
      (.exit 0)))
    (.seq
    (.block 1
    (.seq
    (.reg [
      ⟨some 12, .move (.tmp 0), none⟩,
      ⟨some 13, .move (.tmp 5), none⟩,
      ⟨some 14, .move (.tmp 1), none⟩,
      ⟨some 15, .indexAddr 29 (.tmp 12) (.tmp 13), none⟩,
      ⟨none, .store 3 (.tmp 15) (.tmp 14), none⟩])
    (.reg [
      ⟨some 16, .move (.tmp 1), none⟩,
      ⟨some 17, .binOp .add 3 (.tmp 16) (.const (.int .i64 1)) 3, none⟩,
      ⟨some 1, .assign (.tmp 17), none⟩])))
    (.reg [
      ⟨some 10, .move (.tmp 5), none⟩,
      ⟨some 11, .binOp .add 3 (.tmp 10) (.const (.int .i64 1)) 3, none⟩,
      ⟨some 5, .assign (.tmp 11), none⟩]))))))
  (.seq
  (.reg [
    ⟨some 18, .move (.tmp 1), none⟩,
    ⟨some 4, .assign (.tmp 18), none⟩])
  .ret)))
theorem hd46 : Try.f46.body.map dec = some c46 := by kernel_rfl
theorem e46 {R : AV → AH → Prop} {h : AH} (x0 x1 : AV) (H : h.wf → AI Try.prog c46 (RetQ Try.prog [.tmp 4] R) [x0, x1, un, un, un, un, un, un, un, un, un, un, un, un, un, un, un, un, un] h) : AC Try.prog 46 [x0, x1] h R :=
  AC_of' (rs := [.tmp 4]) Try.func46 (by kernel_rfl) hd46 Try.ntmps46 rfl H

/-- laws.markStepS -/
def c71 : IC :=
  (.seq
  (.reg [
    ⟨some 4, .assign (.const (.int .i64 0)), none⟩])
  (.seq
  (.seq
  (.reg [
    ⟨some 5, .assign (.const (.int .i64 0)), none⟩])
  (.block 0
  (.loop
    (.seq
    (.seq
    (.reg [
      ⟨some 6, .move (.tmp 5), none⟩,
      ⟨some 7, .move (.tmp 0), none⟩,
      ⟨some 8, .call { callee := .builtin .len, args := #[.tmp 7], argTypes := #[28] }, none⟩,
      ⟨some 9, .binOp .lss 3 (.tmp 6) (.tmp 8) 3, none⟩])
    (.cond (.tmp 9)
      .skip
      (.exit 0)))
    (.seq
    (.block 1
    (.seq
    (.reg [
      ⟨some 12, .move (.tmp 0), none⟩,
      ⟨some 13, .move (.tmp 5), none⟩,
      ⟨some 14, .move (.tmp 1), none⟩,
      ⟨some 15, .indexAddr 28 (.tmp 12) (.tmp 13), none⟩,
      ⟨some 16, .fieldAddr 108 (.tmp 15) 0, none⟩,
      ⟨none, .store 3 (.tmp 16) (.tmp 14), none⟩])
    (.seq
    (.reg [
      ⟨some 17, .move (.tmp 1), none⟩,
      ⟨some 18, .binOp .add 3 (.tmp 17) (.const (.int .i64 1)) 3, none⟩,
      ⟨some 1, .assign (.tmp 18), none⟩])
    (.seq
    (.reg [
      ⟨some 19, .move (.tmp 0), none⟩,
      ⟨some 20, .move (.tmp 5), none⟩,
      ⟨some 21, .move (.tmp 1), none⟩,
      ⟨some 22, .indexAddr 28 (.tmp 19) (.tmp 20), none⟩,
      ⟨some 23, .fieldAddr 108 (.tmp 22) 1, none⟩,
      ⟨none, .store 3 (.tmp 23) (.tmp 21), none⟩])
    (.reg [
      ⟨some 24, .move (.tmp 1), none⟩,
      ⟨some 25, .binOp .add 3 (.tmp 24) (.const (.int .i64 1)) 3, none⟩,
      ⟨some 1, .assign (.tmp 25), none⟩])))))
    (.reg [
      ⟨some 10, .move (.tmp 5), none⟩,
      ⟨some 11, .binOp .add 3 (.tmp 10) (.const (.int .i64 1)) 3, none⟩,
      ⟨some 5, .assign (.tmp 11), none⟩]))))))
  (.seq
  (.reg [
    ⟨some 26, .move (.tmp 1), none⟩,
    ⟨some 4, .assign (.tmp 26), none⟩])
  .ret)))
theorem hd71 : Try.f71.body.map dec = some c71 := by kernel_rfl
theorem e71 {R : AV → AH → Prop} {h : AH} (x0 x1 : AV) (H : h.wf → AI Try.prog c71 (RetQ Try.prog [.tmp 4] R) [x0, x1, un, un, un, un, un, un, un, un, un, un, un, un, un, un, un, un, un, un, un, un, un, un, un, un, un] h) : AC Try.prog 71 [x0, x1] h R :=
  AC_of' (rs := [.tmp 4]) Try.func71 (by kernel_rfl) hd71 Try.ntmps71 rfl H

/-- laws.markPlan -/
def c25 : IC :=
  (.seq
  (.reg [
    ⟨some 2, .box 31 (.tmp 0), none⟩,
    ⟨some 4, .assign (.const (.int .i64 0)), none⟩])
  (.seq
  (.reg [
    ⟨some 5, .fieldAddr 31 (.tmp 2) 1, none⟩,
    ⟨some 6, .load 28 (.tmp 5), none⟩,
    ⟨some 7, .move (.tmp 1), none⟩,
    ⟨some 8, .call { callee := .value (.func 71), args := #[.tmp 6, .tmp 7], argTypes := #[28, 3] }, none⟩,
    ⟨some 1, .assign (.tmp 8), none⟩])
  (.seq
  (.reg [
    ⟨some 9, .fieldAddr 31 (.tmp 2) 2, none⟩,
    ⟨some 10, .load 29 (.tmp 9), none⟩,
    ⟨some 11, .move (.tmp 1), none⟩,
    ⟨some 12, .call { callee := .value (.func 46), args := #[.tmp 10, .tmp 11], argTypes := #[29, 3] }, none⟩,
    ⟨some 1, .assign (.tmp 12), none⟩])
  (.seq
  (.reg [
    ⟨some 13, .move (.tmp 1), none⟩,
    ⟨some 4, .assign (.tmp 13), none⟩])
  .ret))))
theorem hd25 : Try.f25.body.map dec = some c25 := by kernel_rfl
theorem e25 {R : AV → AH → Prop} {h : AH} (x0 x1 : AV) (H : h.wf → AI Try.prog c25 (RetQ Try.prog [.tmp 4] R) [x0, x1, un, un, un, un, un, un, un, un, un, un, un, un] h) : AC Try.prog 25 [x0, x1] h R :=
  AC_of' (rs := [.tmp 4]) Try.func25 (by kernel_rfl) hd25 Try.ntmps25 rfl H

/-- laws.szStepS -/
def c90 : IC :=
  (.seq
  (.reg [
    ⟨some 4, .assign (.const (.int .i64 0)), none⟩])
  (.seq
  (.reg [
    ⟨some 5, .move (.tmp 1), none⟩,
    ⟨some 6, .move (.tmp 0), none⟩,
    ⟨some 7, .call { callee := .builtin .len, args := #[.tmp 6], argTypes := #[42] }, none⟩,
    ⟨some 8, .binOp .sub 3 (.tmp 5) (.tmp 7) 3, none⟩,
    ⟨some 1, .assign (.tmp 8), none⟩])
  (.seq
  (.seq
  (.reg [
    ⟨some 9, .move (.tmp 1), none⟩,
    ⟨some 10, .binOp .lss 3 (.tmp 9) (.const (.int .i64 0)) 3, none⟩])
  (.cond (.tmp 10)
    (.seq
    (.reg [
      ⟨some 4, .assign (.const (.int .i64 (-1))), none⟩])
    .ret)
    .skip))
  (.seq
  (.reg [
    ⟨some 11, .move (.tmp 1), none⟩,
    ⟨some 4, .assign (.tmp 11), none⟩])
  .ret))))
theorem hd90 : Try.f90.body.map dec = some c90 := by kernel_rfl
theorem e90 {R : AV → AH → Prop} {h : AH} (x0 x1 : AV) (H : h.wf → AI Try.prog c90 (RetQ Try.prog [.tmp 4] R) [x0, x1, un, un, un, un, un, un, un, un, un, un] h) : AC Try.prog 90 [x0, x1] h R :=
  AC_of' (rs := [.tmp 4]) Try.func90 (by kernel_rfl) hd90 Try.ntmps90 rfl H

/-- laws.szIntS -/
def c91 : IC :=
  (.seq
  (.reg [
    ⟨some 4, .assign (.const (.int .i64 0)), none⟩])
  (.seq
  (.reg [
    ⟨some 5, .move (.tmp 1), none⟩,
    ⟨some 6, .move (.tmp 0), none⟩,
    ⟨some 7, .call { callee := .builtin .len, args := #[.tmp 6], argTypes := #[29] }, none⟩,
    ⟨some 8, .binOp .sub 3 (.tmp 5) (.tmp 7) 3, none⟩,
    ⟨some 1, .assign (.tmp 8), none⟩])
  (.seq
  (.seq
  (.reg [
    ⟨some 9, .move (.tmp 1), none⟩,
    ⟨some 10, .binOp .lss 3 (.tmp 9) (.const (.int .i64 0)) 3, none⟩])
  (.cond (.tmp 10)
    (.seq
    (.reg [
      ⟨some 4, .assign (.const (.int .i64 (-1))), none⟩])
    .ret)
    .skip))
  (.seq
  (.reg [
    ⟨some 11, .move (.tmp 1), none⟩,
    ⟨some 4, .assign (.tmp 11), none⟩])
  .ret))))
theorem hd91 : Try.f91.body.map dec = some c91 := by kernel_rfl
theorem e91 {R : AV → AH → Prop} {h : AH} (x0 x1 : AV) (H : h.wf → AI Try.prog c91 (RetQ Try.prog [.tmp 4] R) [x0, x1, un, un, un, un, un, un, un, un, un, un] h) : AC Try.prog 91 [x0, x1] h R :=
  AC_of' (rs := [.tmp 4]) Try.func91 (by kernel_rfl) hd91 Try.ntmps91 rfl H

/-- laws.szPlan -/
def c34 : IC :=
  (.seq
  (.reg [
    ⟨some 2, .box 44 (.tmp 0), none⟩,
    ⟨some 4, .assign (.const (.int .i64 0)), none⟩])
  (.seq
  (.reg [
    ⟨some 5, .fieldAddr 44 (.tmp 2) 1, none⟩,
    ⟨some 6, .load 42 (.tmp 5), none⟩,
    ⟨some 7, .move (.tmp 1), none⟩,
    ⟨some 8, .call { callee := .value (.func 90), args := #[.tmp 6, .tmp 7], argTypes := #[42, 3] }, none⟩,
    ⟨some 1, .assign (.tmp 8), none⟩])
  (.seq
  (.seq
  (.reg [
    ⟨some 9, .move (.tmp 1), none⟩,
    ⟨some 10, .binOp .lss 3 (.tmp 9) (.const (.int .i64 0)) 3, none⟩])
  (.cond (.tmp 10)
    (.seq
    (.reg [
      ⟨some 4, .assign (.const (.int .i64 (-1))), none⟩])
    .ret)
    .skip))
  (.seq
  (.reg [
    ⟨some 11, .fieldAddr 44 (.tmp 2) 2, none⟩,
    ⟨some 12, .load 29 (.tmp 11), none⟩,
    ⟨some 13, .move (.tmp 1), none⟩,
    ⟨some 14, .call { callee := .value (.func 91), args := #[.tmp 12, .tmp 13], argTypes := #[29, 3] }, none⟩,
    ⟨some 1, .assign (.tmp 14), none⟩])
  (.seq
  (.seq
  (.reg [
    ⟨some 15, .move (.tmp 1), none⟩,
    ⟨some 16, .binOp .lss 3 (.tmp 15) (.const (.int .i64 0)) 3, none⟩])
  (.cond (.tmp 16)
    (.seq
    (.reg [
      ⟨some 4, .assign (.const (.int .i64 (-1))), none⟩])
    .ret)
    .skip))
  (.seq
  (.reg [
    ⟨some 17, .move (.tmp 1), none⟩,
    ⟨some 4, .assign (.tmp 17), none⟩])
  .ret))))))
theorem hd34 : Try.f34.body.map dec = some c34 := by kernel_rfl
theorem e34 {R : AV → AH → Prop} {h : AH} (x0 x1 : AV) (H : h.wf → AI Try.prog c34 (RetQ Try.prog [.tmp 4] R) [x0, x1, un, un, un, un, un, un, un, un, un, un, un, un, un, un, un, un] h) : AC Try.prog 34 [x0, x1] h R :=
  AC_of' (rs := [.tmp 4]) Try.func34 (by kernel_rfl) hd34 Try.ntmps34 rfl H

/-- laws.toIntS -/
def c43 : IC :=
  (.seq
  (.reg [
    ⟨some 2, .assign (.const (.slice none 0 0)), none⟩])
  (.seq
  (.reg [
    ⟨some 5, .move (.tmp 0), none⟩,
    ⟨some 6, .call { callee := .builtin .len, args := #[.tmp 5], argTypes := #[29] }, none⟩,
    ⟨some 7, .makeSlice 29 (.tmp 6) (.tmp 6), none⟩,
    ⟨some 3, .assign (.tmp 7), none⟩])
  (.seq
  (.seq
  (.reg [
    ⟨some 4, .assign (.const (.int .i64 0)), none⟩])
  (.block 0
  (.loop
    (.seq
    (.seq
    (.reg [
      ⟨some 8, .move (.tmp 4), none⟩,
      ⟨some 9, .move (.tmp 0), none⟩,
      ⟨some 10, .call { callee := .builtin .len, args := #[.tmp 9], argTypes := #[29] }, none⟩,
      ⟨some 11, .binOp .lss 3 (.tmp 8) (.tmp 10) 3, none⟩])
    (.cond (.tmp 11)
      .skip
      (.exit 0)))
    (.seq
    (.block 1
    (.reg [
      ⟨some 14, .move (.tmp 3), none⟩,
      ⟨some 15, .move (.tmp 4), none⟩,
      ⟨some 16, .move (.tmp 0), none⟩,
      ⟨some 17, .move (.tmp 4), none⟩,
      ⟨some 18, .indexAddr 29 (.tmp 16) (.tmp 17), none⟩,
      ⟨some 19, .load 3 (.tmp 18), none⟩,
      ⟨some 20, .indexAddr 29 (.tmp 14) (.tmp 15), none⟩,
      ⟨none, .store 3 (.tmp 20) (.tmp 19), none⟩]))
    (.reg [
      ⟨some 12, .move (.tmp 4), none⟩,
      ⟨some 13, .binOp .add 3 (.tmp 12) (.const (.int .i64 1)) 3, none⟩,
      ⟨some 4, .assign (.tmp 13), none⟩]))))))
  (.seq
  (.reg [
    ⟨some 21, .move (.tmp 3), none⟩,
    ⟨some 2, .assign (.tmp 21), none⟩])
  .ret))))
theorem hd43 : Try.f43.body.map dec = some c43 := by kernel_rfl
theorem e43 {R : AV → AH → Prop} {h : AH} (x0 : AV) (H : h.wf → AI Try.prog c43 (RetQ Try.prog [.tmp 2] R) [x0, un, un, un, un, un, un, un, un, un, un, un, un, un, un, un, un, un, un, un, un, un] h) : AC Try.prog 43 [x0] h R :=
  AC_of' (rs := [.tmp 2]) Try.func43 (by kernel_rfl) hd43 Try.ntmps43 rfl H

/-- laws.toStep -/
def c137 : IC :=
  (.seq
  (.reg [
    ⟨some 1, .box 125 (.tmp 0), none⟩,
    ⟨some 2, .alloc 108, none⟩])
  (.seq
  (.reg [
    ⟨some 3, .alloc 108, none⟩])
  (.seq
  (.reg [
    ⟨some 4, .fieldAddr 125 (.tmp 1) 0, none⟩,
    ⟨some 5, .load 3 (.tmp 4), none⟩,
    ⟨some 6, .fieldAddr 108 (.tmp 3) 0, none⟩,
    ⟨none, .store 3 (.tmp 6) (.tmp 5), none⟩])
  (.seq
  (.reg [
    ⟨some 7, .fieldAddr 125 (.tmp 1) 1, none⟩,
    ⟨some 8, .load 3 (.tmp 7), none⟩,
    ⟨some 9, .fieldAddr 108 (.tmp 3) 1, none⟩,
    ⟨none, .store 3 (.tmp 9) (.tmp 8), none⟩])
  (.seq
  (.reg [
    ⟨some 10, .load 108 (.tmp 3), none⟩,
    ⟨none, .store 108 (.tmp 2) (.tmp 10), none⟩])
  .ret)))))
theorem hd137 : Try.f137.body.map dec = some c137 := by kernel_rfl
theorem e137 {R : AV → AH → Prop} {h : AH} (x0 : AV) (H : h.wf → AI Try.prog c137 (RetQ Try.prog [.cell 2 108] R) [x0, un, un, un, un, un, un, un, un, un, un] h) : AC Try.prog 137 [x0] h R :=
  AC_of' (rs := [.cell 2 108]) Try.func137 (by kernel_rfl) hd137 Try.ntmps137 rfl H

/-- laws.toStepS -/
def c92 : IC :=
  (.seq
  (.reg [
    ⟨some 2, .assign (.const (.slice none 0 0)), none⟩])
  (.seq
  (.reg [
    ⟨some 5, .move (.tmp 0), none⟩,
    ⟨some 6, .call { callee := .builtin .len, args := #[.tmp 5], argTypes := #[42] }, none⟩,
    ⟨some 7, .makeSlice 28 (.tmp 6) (.tmp 6), none⟩,
    ⟨some 3, .assign (.tmp 7), none⟩])
  (.seq
  (.seq
  (.reg [
    ⟨some 4, .assign (.const (.int .i64 0)), none⟩])
  (.block 0
  (.loop
    (.seq
    (.seq
    (.reg [
      ⟨some 8, .move (.tmp 4), none⟩,
      ⟨some 9, .move (.tmp 0), none⟩,
      ⟨some 10, .call { callee := .builtin .len, args := #[.tmp 9], argTypes := #[42] }, none⟩,
      ⟨some 11, .binOp .lss 3 (.tmp 8) (.tmp 10) 3, none⟩])
    (.cond (.tmp 11)
      .skip
      (.exit 0)))
    (.seq
    (.block 1
    (.reg [
      ⟨some 14, .move (.tmp 3), none⟩,
      ⟨some 15, .move (.tmp 4), none⟩,
      ⟨some 16, .move (.tmp 0), none⟩,
      ⟨some 17, .move (.tmp 4), none⟩,
      ⟨some 18, .indexAddr 42 (.tmp 16) (.tmp 17), none⟩,
      ⟨some 19, .load 125 (.tmp 18), none⟩,
      ⟨some 20, .call { callee := .value (.func 137), args := #[.tmp 19], argTypes := #[125] }, none⟩,
      ⟨some 21, .indexAddr 28 (.tmp 14) (.tmp 15), none⟩,
      ⟨none, .store 108 (.tmp 21) (.tmp 20), none⟩]))
    (.reg [
      ⟨some 12, .move (.tmp 4), none⟩,
      ⟨some 13, .binOp .add 3 (.tmp 12) (.const (.int .i64 1)) 3, none⟩,
      ⟨some 4, .assign (.tmp 13), none⟩]))))))
  (.seq
  (.reg [
    ⟨some 22, .move (.tmp 3), none⟩,
    ⟨some 2, .assign (.tmp 22), none⟩])
  .ret))))
theorem hd92 : Try.f92.body.map dec = some c92 := by kernel_rfl
theorem e92 {R : AV → AH → Prop} {h : AH} (x0 : AV) (H : h.wf → AI Try.prog c92 (RetQ Try.prog [.tmp 2] R) [x0, un, un, un, un, un, un, un, un, un, un, un, un, un, un, un, un, un, un, un, un, un, un] h) : AC Try.prog 92 [x0] h R :=
  AC_of' (rs := [.tmp 2]) Try.func92 (by kernel_rfl) hd92 Try.ntmps92 rfl H

/-- laws.toPlan -/
def c36 : IC :=
  (.seq
  (.reg [
    ⟨some 1, .box 44 (.tmp 0), none⟩,
    ⟨some 2, .alloc 31, none⟩])
  (.seq
  (.reg [
    ⟨some 3, .alloc 31, none⟩])
  (.seq
  (.reg [
    ⟨some 4, .fieldAddr 44 (.tmp 1) 0, none⟩,
    ⟨some 5, .load 3 (.tmp 4), none⟩,
    ⟨some 6, .fieldAddr 31 (.tmp 3) 0, none⟩,
    ⟨none, .store 3 (.tmp 6) (.tmp 5), none⟩])
  (.seq
  (.reg [
    ⟨some 7, .fieldAddr 44 (.tmp 1) 1, none⟩,
    ⟨some 8, .load 42 (.tmp 7), none⟩,
    ⟨some 9, .call { callee := .value (.func 92), args := #[.tmp 8], argTypes := #[42] }, none⟩,
    ⟨some 10, .fieldAddr 31 (.tmp 3) 1, none⟩,
    ⟨none, .store 28 (.tmp 10) (.tmp 9), none⟩])
  (.seq
  (.reg [
    ⟨some 11, .fieldAddr 44 (.tmp 1) 2, none⟩,
    ⟨some 12, .load 29 (.tmp 11), none⟩,
    ⟨some 13, .call { callee := .value (.func 43), args := #[.tmp 12], argTypes := #[29] }, none⟩,
    ⟨some 14, .fieldAddr 31 (.tmp 3) 2, none⟩,
    ⟨none, .store 29 (.tmp 14) (.tmp 13), none⟩])
  (.seq
  (.reg [
    ⟨some 15, .load 31 (.tmp 3), none⟩,
    ⟨none, .store 31 (.tmp 2) (.tmp 15), none⟩])
  .ret))))))
theorem hd36 : Try.f36.body.map dec = some c36 := by kernel_rfl
theorem e36 {R : AV → AH → Prop} {h : AH} (x0 : AV) (H : h.wf → AI Try.prog c36 (RetQ Try.prog [.cell 2 31] R) [x0, un, un, un, un, un, un, un, un, un, un, un, un, un, un, un] h) : AC Try.prog 36 [x0] h R :=
  AC_of' (rs := [.cell 2 31]) Try.func36 (by kernel_rfl) hd36 Try.ntmps36 rfl H

/-- laws.szStringS -/
def c49 : IC :=
  (.seq
  (.reg [
    ⟨some 4, .assign (.const (.int .i64 0)), none⟩])
  (.seq
  (.reg [
    ⟨some 6, .move (.tmp 1), none⟩,
    ⟨some 7, .move (.tmp 0), none⟩,
    ⟨some 8, .call { callee := .builtin .len, args := #[.tmp 7], argTypes := #[58] }, none⟩,
    ⟨some 9, .binOp .sub 3 (.tmp 6) (.tmp 8) 3, none⟩,
    ⟨some 1, .assign (.tmp 9), none⟩])
  (.seq
  (.seq
  (.reg [
    ⟨some 10, .move (.tmp 1), none⟩,
    ⟨some 11, .binOp .lss 3 (.tmp 10) (.const (.int .i64 0)) 3, none⟩])
  (.cond (.tmp 11)
    (.seq
    (.reg [
      ⟨some 4, .assign (.const (.int .i64 (-1))), none⟩])
    .ret)
    .skip))
  (.seq
  (.seq
  (.reg [
    ⟨some 5, .assign (.const (.int .i64 0)), none⟩])
  (.block 0
  (.loop
    (.seq
    (.seq
    (.reg [
      ⟨some 12, .move (.tmp 5), none⟩,
      ⟨some 13, .move (.tmp 0), none⟩,
      ⟨some 14, .call { callee := .builtin .len, args := #[.tmp 13], argTypes := #[58] }, none⟩,
      ⟨some 15, .binOp .lss 3 (.tmp 12) (.tmp 14) 3, none⟩])
    (.cond (.tmp 15)
      .skip
      (.exit 0)))
    (.seq
    (.block 1
    (.seq
    (.reg [
      ⟨some 18, .move (.tmp 1), none⟩,
      ⟨some 19, .move (.tmp 0), none⟩,
      ⟨some 20, .move (.tmp 5), none⟩,
      ⟨some 21, .indexAddr 58 (.tmp 19) (.tmp 20), none⟩,
      ⟨some 22, .load 9 (.tmp 21), none⟩,
      ⟨some 23, .call { callee := .builtin .len, args := #[.tmp 22], argTypes := #[9] }, none⟩,
      ⟨some 24, .binOp .sub 3 (.tmp 18) (.tmp 23) 3, none⟩,
      ⟨some 1, .assign (.tmp 24), none⟩])
    (.seq
    (.reg [
      ⟨some 25, .move (.tmp 1), none⟩,
      ⟨some 26, .binOp .lss 3 (.tmp 25) (.const (.int .i64 0)) 3, none⟩])
    (.cond (.tmp 26)
      (.seq
      (.reg [
        ⟨some 4, .assign (.const (.int .i64 (-1))), none⟩])
      .ret)
      .skip))))
    (.reg [
      ⟨some 16, .move (.tmp 5), none⟩,
      ⟨some 17, .binOp .add 3 (.tmp 16) (.const (.int .i64 1)) 3, none⟩,
      ⟨some 5, .assign (.tmp 17), none⟩]))))))
  (.seq
  (.reg [
    ⟨some 27, .move (.tmp 1), none⟩,
    ⟨some 4, .assign (.tmp 27), none⟩])
  .ret)))))
theorem hd49 : Try.f49.body.map dec = some c49 := by kernel_rfl
theorem e49 {R : AV → AH → Prop} {h : AH} (x0 x1 : AV) (H : h.wf → AI Try.prog c49 (RetQ Try.prog [.tmp 4] R) [x0, x1, un, un, un, un, un, un, un, un, un, un, un, un, un, un, un, un, un, un, un, un, un, un, un, un, un, un] h) : AC Try.prog 49 [x0, x1] h R :=
  AC_of' (rs := [.tmp 4]) Try.func49 (by kernel_rfl) hd49 Try.ntmps49 rfl H

/-- spec.l1In -/
def c100 : IC :=
  (.seq
  (.reg [
    ⟨some 6, .assign (.const (.bool false)), none⟩])
  (.seq
  (.reg [
    ⟨some 7, .move (.tmp 0), none⟩,
    ⟨some 8, .move (.tmp 1), none⟩,
    ⟨some 9, .binOp .geq 3 (.tmp 7) (.tmp 8) 3, none⟩,
    ⟨some 10, .move (.tmp 9), none⟩,
    ⟨some 11, .move (.tmp 0), some (10, true)⟩,
    ⟨some 12, .move (.tmp 2), some (10, true)⟩,
    ⟨some 13, .binOp .leq 3 (.tmp 11) (.tmp 12) 3, some (10, true)⟩,
    ⟨some 14, .pick (.tmp 10) (.tmp 13) (.const (.bool false)), none⟩,
    ⟨some 6, .assign (.tmp 14), none⟩])
  .ret))
theorem hd100 : Try.f100.body.map dec = some c100 := by kernel_rfl
theorem e100 {R : AV → AH → Prop} {h : AH} (x0 x1 x2 : AV) (H : h.wf → AI Try.prog c100 (RetQ Try.prog [.tmp 6] R) [x0, x1, x2, un, un, un, un, un, un, un, un, un, un, un, un] h) : AC Try.prog 100 [x0, x1, x2] h R :=
  AC_of' (rs := [.tmp 6]) Try.func100 (by kernel_rfl) hd100 Try.ntmps100 rfl H

/-- spec.l1All -/
def c101 : IC :=
  (.seq
  (.reg [
    ⟨some 6, .assign (.const (.bool false)), none⟩])
  (.seq
  (.seq
  (.reg [
    ⟨some 9, .move (.tmp 0), none⟩,
    ⟨some 10, .call { callee := .builtin .len, args := #[.tmp 9], argTypes := #[29] }, none⟩,
    ⟨some 11, .move (.const (.int .i64 0)), none⟩])
  (.block 0
  (.loop
    (.seq
    (.reg [
      ⟨some 12, .binOp .lss 3 (.tmp 11) (.tmp 10) 3, none⟩])
    (.seq
    (.cond (.tmp 12)
      .skip
      (.exit 0))
    (.seq
    (.block 1
    (.seq
    (.reg [
      ⟨some 13, .indexAddr 29 (.tmp 9) (.tmp 11), none⟩,
      ⟨some 14, .load 3 (.tmp 13), none⟩,
      ⟨some 8, .assign (.tmp 14), none⟩])
    (.seq
    (.reg [
      ⟨some 15, .move (.tmp 8), none⟩,
      ⟨some 16, .move (.tmp 1), none⟩,
      ⟨some 17, .move (.tmp 2), none⟩,
      ⟨some 18, .call { callee := .value (.func 100), args := #[.tmp 15, .tmp 16, .tmp 17], argTypes := #[3, 3, 3] }, none⟩,
      ⟨some 19, .unOp .not 4 (.tmp 18), none⟩])
    (.cond (.tmp 19)
      (.seq
      (.reg [
        ⟨some 6, .assign (.const (.bool false)), none⟩])
      .ret)
      .skip))))
    (.reg [
      ⟨some 20, .binOp .add 3 (.tmp 11) (.const (.int .i64 1)) 3, none⟩,
      ⟨some 11, .move (.tmp 20), none⟩])))))))
  (.seq
  (.reg [
    ⟨some 6, .assign (.const (.bool true)), none⟩])
  .ret)))
theorem hd101 : Try.f101.body.map dec = some c101 := by kernel_rfl
theorem e101 {R : AV → AH → Prop} {h : AH} (x0 x1 x2 : AV) (H : h.wf → AI Try.prog c101 (RetQ Try.prog [.tmp 6] R) [x0, x1, x2, un, un, un, un, un, un, un, un, un, un, un, un, un, un, un, un, un, un] h) : AC Try.prog 101 [x0, x1, x2] h R :=
  AC_of' (rs := [.tmp 6]) Try.func101 (by kernel_rfl) hd101 Try.ntmps101 rfl H

/-- spec.l1Least -/
def c80 : IC :=
  (.seq
  (.reg [
    ⟨some 4, .assign (.const (.int .i64 0)), none⟩])
  (.seq
  (.seq
  (.reg [
    ⟨some 5, .move (.tmp 0), none⟩,
    ⟨some 6, .move (.tmp 1), none⟩,
    ⟨some 7, .binOp .lss 3 (.tmp 5) (.tmp 6) 3, none⟩])
  (.cond (.tmp 7)
    (.seq
    (.reg [
      ⟨some 8, .move (.tmp 0), none⟩,
      ⟨some 4, .assign (.tmp 8), none⟩])
    .ret)
    .skip))
  (.seq
  (.reg [
    ⟨some 9, .move (.tmp 1), none⟩,
    ⟨some 4, .assign (.tmp 9), none⟩])
  .ret)))
theorem hd80 : Try.f80.body.map dec = some c80 := by kernel_rfl
theorem e80 {R : AV → AH → Prop} {h : AH} (x0 x1 : AV) (H : h.wf → AI Try.prog c80 (RetQ Try.prog [.tmp 4] R) [x0, x1, un, un, un, un, un, un, un, un] h) : AC Try.prog 80 [x0, x1] h R :=
  AC_of' (rs := [.tmp 4]) Try.func80 (by kernel_rfl) hd80 Try.ntmps80 rfl H

noncomputable def rg158_0 : Array Oper := rawAt Try.f158 0
/-- spec.plSum -/
noncomputable def c158 : IC :=
  (.seq
  (.reg [
    ⟨some 4, .assign (.const (.slice none 0 0)), none⟩])
  (.seq
  (.reg [
    ⟨some 5, .assign (.const (.slice none 0 0)), none⟩])
  (.seq
  (.seq
  (.reg [
    ⟨some 7, .move (.tmp 0), none⟩,
    ⟨some 8, .call { callee := .builtin .len, args := #[.tmp 7], argTypes := #[29] }, none⟩,
    ⟨some 9, .move (.const (.int .i64 0)), none⟩])
  (.block 0
  (.loop
    (.seq
    (.reg [
      ⟨some 10, .binOp .lss 3 (.tmp 9) (.tmp 8) 3, none⟩])
    (.seq
    (.cond (.tmp 10)
      .skip
      (.exit 0))
    (.seq
    (.block 1
    (.seq
    (.reg [
      ⟨some 11, .move (.tmp 9), none⟩,
      ⟨some 6, .assign (.tmp 11), none⟩])
    (.raw (.region 5 rg158_0 true))))
    (.reg [
      ⟨some 25, .binOp .add 3 (.tmp 9) (.const (.int .i64 1)) 3, none⟩,
      ⟨some 9, .move (.tmp 25), none⟩])))))))
  (.seq
  (.reg [
    ⟨some 26, .move (.tmp 5), none⟩,
    ⟨some 4, .assign (.tmp 26), none⟩])
  .ret))))
theorem hd158 : Try.f158.body.map dec = some c158 := by kernel_rfl
theorem e158 {R : AV → AH → Prop} {h : AH} (x0 x1 : AV) (H : h.wf → AI Try.prog c158 (RetQ Try.prog [.tmp 4] R) [x0, x1, un, un, un, un, un, un, un, un, un, un, un, un, un, un, un, un, un, un, un, un, un, un, un, un, un] h) : AC Try.prog 158 [x0, x1] h R :=
  AC_of' (rs := [.tmp 4]) Try.func158 (by kernel_rfl) hd158 Try.ntmps158 rfl H
theorem dz158_0 {h0 : AH} {L : List It} {Q : Exit → List AV → List It → Prop} {a : List AV} {id : Nat} (H : LX Try.prog ⟨[12], []⟩ h0 L L (.c (⟨some 12, .move (.tmp 5), none⟩, .p) <| .c (⟨some 13, .move (.tmp 0), none⟩, .p) <| .c (⟨some 14, .move (.tmp 6), none⟩, .p) <| .c (⟨some 15, .indexAddr 29 (.tmp 13) (.tmp 14), none⟩, .p) <| .c (⟨some 16, .load 3 (.tmp 15), none⟩, .l) <| .c (⟨some 17, .move (.tmp 1), none⟩, .p) <| .c (⟨some 18, .move (.tmp 6), none⟩, .p) <| .c (⟨some 19, .indexAddr 29 (.tmp 17) (.tmp 18), none⟩, .p) <| .c (⟨some 20, .load 3 (.tmp 19), none⟩, .l) <| .c (⟨some 21, .binOp .add 3 (.tmp 16) (.tmp 20) 3, none⟩, .p) <| .c (⟨some 22, .call { callee := .value (.func 80), args := #[.tmp 21, .const (.int .i64 1000001)], argTypes := #[3, 3] }, none⟩, .e) <| .c (⟨some 23, .buildSlice 29 1 #[(0, .tmp 22)], none⟩, .e) <| .c (⟨some 24, .call { callee := .builtin .append, args := #[.tmp 12, .tmp 23], argTypes := #[29, 29] }, none⟩, .f) <| .c (⟨some 5, .assign (.tmp 24), none⟩, .p) <| .n) Q a) : LI Try.prog h0 L (.raw (.region id rg158_0 true)) Q a :=
  LI_draw (.c (0, .p) <| .c (1, .p) <| .c (2, .p) <| .c (3, .p) <| .c (4, .l) <| .c (5, .p) <| .c (6, .p) <| .c (7, .p) <| .c (8, .l) <| .c (9, .p) <| .c (10, .e) <| .c (11, .e) <| .c (12, .f) <| .c (13, .p) <| .n) [12] (by kernel_rfl) (by kernel_rfl) (by kernel_rfl) H
theorem dy158_0 {h0 : AH} {L : List It} {Q : Exit → List AV → List It → Prop} {a : List AV} {id : Nat} (H : LX Try.prog ⟨[10, 11, 12], []⟩ h0 L L (.c (⟨some 12, .move (.tmp 5), none⟩, .p) <| .c (⟨some 13, .move (.tmp 0), none⟩, .p) <| .c (⟨some 14, .move (.tmp 6), none⟩, .p) <| .c (⟨some 15, .indexAddr 29 (.tmp 13) (.tmp 14), none⟩, .p) <| .c (⟨some 16, .load 3 (.tmp 15), none⟩, .l) <| .c (⟨some 17, .move (.tmp 1), none⟩, .p) <| .c (⟨some 18, .move (.tmp 6), none⟩, .p) <| .c (⟨some 19, .indexAddr 29 (.tmp 17) (.tmp 18), none⟩, .p) <| .c (⟨some 20, .load 3 (.tmp 19), none⟩, .l) <| .c (⟨some 21, .binOp .add 3 (.tmp 16) (.tmp 20) 3, none⟩, .p) <| .c (⟨some 22, .call { callee := .value (.func 80), args := #[.tmp 21, .const (.int .i64 1000001)], argTypes := #[3, 3] }, none⟩, .f) <| .c (⟨some 23, .buildSlice 29 1 #[(0, .tmp 22)], none⟩, .f) <| .c (⟨some 24, .call { callee := .builtin .append, args := #[.tmp 12, .tmp 23], argTypes := #[29, 29] }, none⟩, .f) <| .c (⟨some 5, .assign (.tmp 24), none⟩, .p) <| .n) Q a) : LI Try.prog h0 L (.raw (.region id rg158_0 true)) Q a :=
  LI_draw (.c (0, .p) <| .c (1, .p) <| .c (2, .p) <| .c (3, .p) <| .c (4, .l) <| .c (5, .p) <| .c (6, .p) <| .c (7, .p) <| .c (8, .l) <| .c (9, .p) <| .c (10, .f) <| .c (11, .f) <| .c (12, .f) <| .c (13, .p) <| .n) [10, 11, 12] (by kernel_rfl) (by kernel_rfl) (by kernel_rfl) H
theorem dr158_0 (m : Nat) {Q : Exit → List AV → AH → Prop} {a : List AV} {h : AH} {id : Nat} (H : AX Try.prog m h [(⟨some 12, .move (.tmp 5), none⟩, true),
  (⟨some 13, .move (.tmp 0), none⟩, true),
  (⟨some 14, .move (.tmp 6), none⟩, true),
  (⟨some 15, .indexAddr 29 (.tmp 13) (.tmp 14), none⟩, true),
  (⟨some 16, .load 3 (.tmp 15), none⟩, true),
  (⟨some 17, .move (.tmp 1), none⟩, true),
  (⟨some 18, .move (.tmp 6), none⟩, true),
  (⟨some 19, .indexAddr 29 (.tmp 17) (.tmp 18), none⟩, true),
  (⟨some 20, .load 3 (.tmp 19), none⟩, true),
  (⟨some 21, .binOp .add 3 (.tmp 16) (.tmp 20) 3, none⟩, true),
  (⟨some 22, .call { callee := .value (.func 80), args := #[.tmp 21, .const (.int .i64 1000001)], argTypes := #[3, 3] }, none⟩, false),
  (⟨some 23, .buildSlice 29 1 #[(0, .tmp 22)], none⟩, false),
  (⟨some 24, .call { callee := .builtin .append, args := #[.tmp 12, .tmp 23], argTypes := #[29, 29] }, none⟩, false),
  (⟨some 5, .assign (.tmp 24), none⟩, true)] (fun a' h' => Q .normal a' h') a h) : AI Try.prog (.raw (.region id rg158_0 true)) Q a h :=
  AI_draw [(0, true), (1, true), (2, true), (3, true), (4, true), (5, true), (6, true), (7, true), (8, true), (9, true), (10, false), (11, false), (12, false), (13, true)] m (by kernel_rfl) (by kernel_rfl) (by kernel_rfl) H

noncomputable def rg136_0 : Array Oper := rawAt Try.f136 0
/-- spec.plExponents -/
noncomputable def c136 : IC :=
  (.seq
  (.reg [
    ⟨some 1, .box 31 (.tmp 0), none⟩,
    ⟨some 2, .assign (.const (.slice none 0 0)), none⟩])
  (.seq
  (.reg [
    ⟨some 3, .assign (.const (.slice none 0 0)), none⟩])
  (.seq
  (.seq
  (.reg [
    ⟨some 4, .assign (.const (.int .i64 0)), none⟩])
  (.block 0
  (.loop
    (.seq
    (.seq
    (.reg [
      ⟨some 8, .move (.tmp 4), none⟩,
      ⟨some 9, .fieldAddr 31 (.tmp 1) 0, none⟩,
      ⟨some 10, .load 3 (.tmp 9), none⟩,
      ⟨some 11, .binOp .lss 3 (.tmp 8) (.tmp 10) 3, none⟩])
    (.cond (.tmp 11)
      .skip
      (.exit 0)))
    (.seq
    (.block 1
    (.seq
    (.reg [
      ⟨some 14, .fieldAddr 31 (.tmp 1) 0, none⟩,
      ⟨some 15, .load 3 (.tmp 14), none⟩,
      ⟨some 16, .makeSlice 29 (.tmp 15) (.tmp 15), none⟩,
      ⟨some 5, .assign (.tmp 16), none⟩])
    (.seq
    (.reg [
      ⟨some 17, .move (.tmp 5), none⟩,
      ⟨some 18, .move (.tmp 4), none⟩,
      ⟨some 19, .indexAddr 29 (.tmp 17) (.tmp 18), none⟩,
      ⟨none, .store 3 (.tmp 19) (.const (.int .i64 1)), none⟩])
    (.reg [
      ⟨some 20, .move (.tmp 3), none⟩,
      ⟨some 21, .move (.tmp 5), none⟩,
      ⟨some 22, .buildSlice 39 1 #[(0, .tmp 21)], none⟩,
      ⟨some 23, .call { callee := .builtin .append, args := #[.tmp 20, .tmp 22], argTypes := #[39, 39] }, none⟩,
      ⟨some 3, .assign (.tmp 23), none⟩]))))
    (.reg [
      ⟨some 12, .move (.tmp 4), none⟩,
      ⟨some 13, .binOp .add 3 (.tmp 12) (.const (.int .i64 1)) 3, none⟩,
      ⟨some 4, .assign (.tmp 13), none⟩]))))))
  (.seq
  (.seq
  (.reg [
    ⟨some 24, .fieldAddr 31 (.tmp 1) 1, none⟩,
    ⟨some 25, .load 28 (.tmp 24), none⟩,
    ⟨some 26, .call { callee := .builtin .len, args := #[.tmp 25], argTypes := #[28] }, none⟩,
    ⟨some 27, .move (.const (.int .i64 0)), none⟩])
  (.block 2
  (.loop
    (.seq
    (.reg [
      ⟨some 28, .binOp .lss 3 (.tmp 27) (.tmp 26) 3, none⟩])
    (.seq
    (.cond (.tmp 28)
      .skip
      (.exit 2))
    (.seq
    (.block 3
    (.seq
    (.reg [
      ⟨some 29, .indexAddr 28 (.tmp 25) (.tmp 27), none⟩,
      ⟨some 30, .load 108 (.tmp 29), none⟩,
      ⟨some 7, .alloc 108, none⟩,
      ⟨none, .store 108 (.tmp 7) (.tmp 30), none⟩])
    (.raw (.region 11 rg136_0 true))))
    (.reg [
      ⟨some 45, .binOp .add 3 (.tmp 27) (.const (.int .i64 1)) 3, none⟩,
      ⟨some 27, .move (.tmp 45), none⟩])))))))
  (.seq
  (.reg [
    ⟨some 46, .move (.tmp 3), none⟩,
    ⟨some 2, .assign (.tmp 46), none⟩])
  .ret)))))
theorem hd136 : Try.f136.body.map dec = some c136 := by kernel_rfl
theorem e136 {R : AV → AH → Prop} {h : AH} (x0 : AV) (H : h.wf → AI Try.prog c136 (RetQ Try.prog [.tmp 2] R) [x0, un, un, un, un, un, un, un, un, un, un, un, un, un, un, un, un, un, un, un, un, un, un, un, un, un, un, un, un, un, un, un, un, un, un, un, un, un, un, un, un, un, un, un, un, un, un] h) : AC Try.prog 136 [x0] h R :=
  AC_of' (rs := [.tmp 2]) Try.func136 (by kernel_rfl) hd136 Try.ntmps136 rfl H
theorem dz136_0 {h0 : AH} {L : List It} {Q : Exit → List AV → List It → Prop} {a : List AV} {id : Nat} (H : LX Try.prog ⟨[13], []⟩ h0 L L (.c (⟨some 31, .move (.tmp 3), none⟩, .p) <| .c (⟨some 32, .move (.tmp 3), none⟩, .p) <| .c (⟨some 33, .fieldAddr 108 (.tmp 7) 0, none⟩, .p) <| .c (⟨some 34, .load 3 (.tmp 33), none⟩, .l) <| .c (⟨some 35, .indexAddr 39 (.tmp 32) (.tmp 34), none⟩, .p) <| .c (⟨some 36, .load 29 (.tmp 35), none⟩, .l) <| .c (⟨some 37, .move (.tmp 3), none⟩, .p) <| .c (⟨some 38, .fieldAddr 108 (.tmp 7) 1, none⟩, .p) <| .c (⟨some 39, .load 3 (.tmp 38), none⟩, .l) <| .c (⟨some 40, .indexAddr 39 (.tmp 37) (.tmp 39), none⟩, .p) <| .c (⟨some 41, .load 29 (.tmp 40), none⟩, .l) <| .c (⟨some 42, .call { callee := .value (.func 158), args := #[.tmp 36, .tmp 41], argTypes := #[29, 29] }, none⟩, .e) <| .c (⟨some 43, .buildSlice 39 1 #[(0, .tmp 42)], none⟩, .e) <| .c (⟨some 44, .call { callee := .builtin .append, args := #[.tmp 31, .tmp 43], argTypes := #[39, 39] }, none⟩, .f) <| .c (⟨some 3, .assign (.tmp 44), none⟩, .p) <| .n) Q a) : LI Try.prog h0 L (.raw (.region id rg136_0 true)) Q a :=
  LI_draw (.c (0, .p) <| .c (1, .p) <| .c (2, .p) <| .c (3, .l) <| .c (4, .p) <| .c (5, .l) <| .c (6, .p) <| .c (7, .p) <| .c (8, .l) <| .c (9, .p) <| .c (10, .l) <| .c (11, .e) <| .c (12, .e) <| .c (13, .f) <| .c (14, .p) <| .n) [13] (by kernel_rfl) (by kernel_rfl) (by kernel_rfl) H
theorem dy136_0 {h0 : AH} {L : List It} {Q : Exit → List AV → List It → Prop} {a : List AV} {id : Nat} (H : LX Try.prog ⟨[11, 12, 13], []⟩ h0 L L (.c (⟨some 31, .move (.tmp 3), none⟩, .p) <| .c (⟨some 32, .move (.tmp 3), none⟩, .p) <| .c (⟨some 33, .fieldAddr 108 (.tmp 7) 0, none⟩, .p) <| .c (⟨some 34, .load 3 (.tmp 33), none⟩, .l) <| .c (⟨some 35, .indexAddr 39 (.tmp 32) (.tmp 34), none⟩, .p) <| .c (⟨some 36, .load 29 (.tmp 35), none⟩, .l) <| .c (⟨some 37, .move (.tmp 3), none⟩, .p) <| .c (⟨some 38, .fieldAddr 108 (.tmp 7) 1, none⟩, .p) <| .c (⟨some 39, .load 3 (.tmp 38), none⟩, .l) <| .c (⟨some 40, .indexAddr 39 (.tmp 37) (.tmp 39), none⟩, .p) <| .c (⟨some 41, .load 29 (.tmp 40), none⟩, .l) <| .c (⟨some 42, .call { callee := .value (.func 158), args := #[.tmp 36, .tmp 41], argTypes := #[29, 29] }, none⟩, .f) <| .c (⟨some 43, .buildSlice 39 1 #[(0, .tmp 42)], none⟩, .f) <| .c (⟨some 44, .call { callee := .builtin .append, args := #[.tmp 31, .tmp 43], argTypes := #[39, 39] }, none⟩, .f) <| .c (⟨some 3, .assign (.tmp 44), none⟩, .p) <| .n) Q a) : LI Try.prog h0 L (.raw (.region id rg136_0 true)) Q a :=
  LI_draw (.c (0, .p) <| .c (1, .p) <| .c (2, .p) <| .c (3, .l) <| .c (4, .p) <| .c (5, .l) <| .c (6, .p) <| .c (7, .p) <| .c (8, .l) <| .c (9, .p) <| .c (10, .l) <| .c (11, .f) <| .c (12, .f) <| .c (13, .f) <| .c (14, .p) <| .n) [11, 12, 13] (by kernel_rfl) (by kernel_rfl) (by kernel_rfl) H
theorem dr136_0 (m : Nat) {Q : Exit → List AV → AH → Prop} {a : List AV} {h : AH} {id : Nat} (H : AX Try.prog m h [(⟨some 31, .move (.tmp 3), none⟩, true),
  (⟨some 32, .move (.tmp 3), none⟩, true),
  (⟨some 33, .fieldAddr 108 (.tmp 7) 0, none⟩, true),
  (⟨some 34, .load 3 (.tmp 33), none⟩, true),
  (⟨some 35, .indexAddr 39 (.tmp 32) (.tmp 34), none⟩, true),
  (⟨some 36, .load 29 (.tmp 35), none⟩, true),
  (⟨some 37, .move (.tmp 3), none⟩, true),
  (⟨some 38, .fieldAddr 108 (.tmp 7) 1, none⟩, true),
  (⟨some 39, .load 3 (.tmp 38), none⟩, true),
  (⟨some 40, .indexAddr 39 (.tmp 37) (.tmp 39), none⟩, true),
  (⟨some 41, .load 29 (.tmp 40), none⟩, true),
  (⟨some 42, .call { callee := .value (.func 158), args := #[.tmp 36, .tmp 41], argTypes := #[29, 29] }, none⟩, false),
  (⟨some 43, .buildSlice 39 1 #[(0, .tmp 42)], none⟩, false),
  (⟨some 44, .call { callee := .builtin .append, args := #[.tmp 31, .tmp 43], argTypes := #[39, 39] }, none⟩, false),
  (⟨some 3, .assign (.tmp 44), none⟩, true)] (fun a' h' => Q .normal a' h') a h) : AI Try.prog (.raw (.region id rg136_0 true)) Q a h :=
  AI_draw [(0, true), (1, true), (2, true), (3, true), (4, true), (5, true), (6, true), (7, true), (8, true), (9, true), (10, true), (11, false), (12, false), (13, false), (14, true)] m (by kernel_rfl) (by kernel_rfl) (by kernel_rfl) H

/-- spec.plGood -/
def c85 : IC :=
  (.seq
  (.reg [
    ⟨some 1, .box 31 (.tmp 0), none⟩,
    ⟨some 2, .assign (.const (.bool false)), none⟩])
  (.seq
  (.seq
  (.reg [
    ⟨some 7, .fieldAddr 31 (.tmp 1) 0, none⟩,
    ⟨some 8, .load 3 (.tmp 7), none⟩,
    ⟨some 9, .call { callee := .value (.func 100), args := #[.tmp 8, .const (.int .i64 1), .const (.int .i64 6)], argTypes := #[3, 3, 3] }, none⟩,
    ⟨some 10, .unOp .not 4 (.tmp 9), none⟩,
    ⟨some 11, .move (.tmp 10), none⟩,
    ⟨some 12, .fieldAddr 31 (.tmp 1) 1, some (11, false)⟩,
    ⟨some 13, .load 28 (.tmp 12), some (11, false)⟩,
    ⟨some 14, .call { callee := .builtin .len, args := #[.tmp 13], argTypes := #[28] }, some (11, false)⟩,
    ⟨some 15, .binOp .gtr 3 (.tmp 14) (.const (.int .i64 40)) 3, some (11, false)⟩,
    ⟨some 16, .pick (.tmp 11) (.const (.bool true)) (.tmp 15), none⟩,
    ⟨some 17, .move (.tmp 16), none⟩,
    ⟨some 18, .fieldAddr 31 (.tmp 1) 2, some (17, false)⟩,
    ⟨some 19, .load 29 (.tmp 18), some (17, false)⟩,
    ⟨some 20, .call { callee := .builtin .len, args := #[.tmp 19], argTypes := #[29] }, some (17, false)⟩,
    ⟨some 21, .binOp .gtr 3 (.tmp 20) (.const (.int .i64 6)) 3, some (17, false)⟩,
    ⟨some 22, .pick (.tmp 17) (.const (.bool true)) (.tmp 21), none⟩])
  (.cond (.tmp 22)
    (.seq
    (.reg [
      ⟨some 2, .assign (.const (.bool false)), none⟩])
    .ret)
    .skip))
  (.seq
  (.seq
  (.reg [
    ⟨some 23, .fieldAddr 31 (.tmp 1) 1, none⟩,
    ⟨some 24, .load 28 (.tmp 23), none⟩,
    ⟨some 25, .call { callee := .builtin .len, args := #[.tmp 24], argTypes := #[28] }, none⟩,
    ⟨some 26, .move (.const (.int .i64 0)), none⟩])
  (.block 0
  (.loop
    (.seq
    (.reg [
      ⟨some 27, .binOp .lss 3 (.tmp 26) (.tmp 25) 3, none⟩])
    (.seq
    (.cond (.tmp 27)
      .skip
      (.exit 0))
    (.seq
    (.block 1
    (.seq
    (.reg [
      ⟨some 28, .move (.tmp 26), none⟩,
      ⟨some 29, .indexAddr 28 (.tmp 24) (.tmp 26), none⟩,
      ⟨some 30, .load 108 (.tmp 29), none⟩,
      ⟨some 4, .alloc 108, none⟩,
      ⟨some 3, .assign (.tmp 28), none⟩,
      ⟨none, .store 108 (.tmp 4) (.tmp 30), none⟩])
    (.seq
    (.reg [
      ⟨some 31, .fieldAddr 108 (.tmp 4) 0, none⟩,
      ⟨some 32, .load 3 (.tmp 31), none⟩,
      ⟨some 33, .fieldAddr 108 (.tmp 4) 1, none⟩,
      ⟨some 34, .load 3 (.tmp 33), none⟩,
      ⟨some 35, .call { callee := .value (.func 100), args := #[.tmp 32, .const (.int .i64 0), .tmp 34], argTypes := #[3, 3, 3] }, none⟩,
      ⟨some 36, .unOp .not 4 (.tmp 35), none⟩,
      ⟨some 37, .move (.tmp 36), none⟩,
      ⟨some 38, .fieldAddr 108 (.tmp 4) 1, some (37, false)⟩,
      ⟨some 39, .load 3 (.tmp 38), some (37, false)⟩,
      ⟨some 40, .fieldAddr 31 (.tmp 1) 0, some (37, false)⟩,
      ⟨some 41, .load 3 (.tmp 40), some (37, false)⟩,
      ⟨some 42, .move (.tmp 3), some (37, false)⟩,
      ⟨some 43, .binOp .add 3 (.tmp 41) (.tmp 42) 3, some (37, false)⟩,
      ⟨some 44, .binOp .geq 3 (.tmp 39) (.tmp 43) 3, some (37, false)⟩,
      ⟨some 45, .pick (.tmp 37) (.const (.bool true)) (.tmp 44), none⟩])
    (.cond (.tmp 45)
      (.seq
      (.reg [
        ⟨some 2, .assign (.const (.bool false)), none⟩])
      .ret)
      .skip))))
    (.reg [
      ⟨some 46, .binOp .add 3 (.tmp 26) (.const (.int .i64 1)) 3, none⟩,
      ⟨some 26, .move (.tmp 46), none⟩])))))))
  (.seq
  (.seq
  (.reg [
    ⟨some 47, .load 31 (.tmp 1), none⟩,
    ⟨some 48, .call { callee := .value (.func 136), args := #[.tmp 47], argTypes := #[31] }, none⟩,
    ⟨some 49, .call { callee := .builtin .len, args := #[.tmp 48], argTypes := #[39] }, none⟩,
    ⟨some 50, .move (.const (.int .i64 0)), none⟩])
  (.block 2
  (.loop
    (.seq
    (.reg [
      ⟨some 51, .binOp .lss 3 (.tmp 50) (.tmp 49) 3, none⟩])
    (.seq
    (.cond (.tmp 51)
      .skip
      (.exit 2))
    (.seq
    (.block 3
    (.seq
    (.reg [
      ⟨some 52, .indexAddr 39 (.tmp 48) (.tmp 50), none⟩,
      ⟨some 53, .load 29 (.tmp 52), none⟩,
      ⟨some 6, .assign (.tmp 53), none⟩])
    (.seq
    (.reg [
      ⟨some 54, .move (.tmp 6), none⟩,
      ⟨some 55, .call { callee := .value (.func 101), args := #[.tmp 54, .const (.int .i64 0), .const (.int .i64 1000000)], argTypes := #[29, 3, 3] }, none⟩,
      ⟨some 56, .unOp .not 4 (.tmp 55), none⟩])
    (.cond (.tmp 56)
      (.seq
      (.reg [
        ⟨some 2, .assign (.const (.bool false)), none⟩])
      .ret)
      .skip))))
    (.reg [
      ⟨some 57, .binOp .add 3 (.tmp 50) (.const (.int .i64 1)) 3, none⟩,
      ⟨some 50, .move (.tmp 57), none⟩])))))))
  (.seq
  (.reg [
    ⟨some 58, .fieldAddr 31 (.tmp 1) 2, none⟩,
    ⟨some 59, .load 29 (.tmp 58), none⟩,
    ⟨some 60, .fieldAddr 31 (.tmp 1) 0, none⟩,
    ⟨some 61, .load 3 (.tmp 60), none⟩,
    ⟨some 62, .fieldAddr 31 (.tmp 1) 1, none⟩,
    ⟨some 63, .load 28 (.tmp 62), none⟩,
    ⟨some 64, .call { callee := .builtin .len, args := #[.tmp 63], argTypes := #[28] }, none⟩,
    ⟨some 65, .binOp .add 3 (.tmp 61) (.tmp 64) 3, none⟩,
    ⟨some 66, .binOp .sub 3 (.tmp 65) (.const (.int .i64 1)) 3, none⟩,
    ⟨some 67, .call { callee := .value (.func 101), args := #[.tmp 59, .const (.int .i64 0), .tmp 66], argTypes := #[29, 3, 3] }, none⟩,
    ⟨some 2, .assign (.tmp 67), none⟩])
  .ret)))))
theorem hd85 : Try.f85.body.map dec = some c85 := by kernel_rfl
theorem e85 {R : AV → AH → Prop} {h : AH} (x0 : AV) (H : h.wf → AI Try.prog c85 (RetQ Try.prog [.tmp 2] R) [x0, un, un, un, un, un, un, un, un, un, un, un, un, un, un, un, un, un, un, un, un, un, un, un, un, un, un, un, un, un, un, un, un, un, un, un, un, un, un, un, un, un, un, un, un, un, un, un, un, un, un, un, un, un, un, un, un, un, un, un, un, un, un, un, un, un, un, un] h) : AC Try.prog 85 [x0] h R :=
  AC_of' (rs := [.tmp 2]) Try.func85 (by kernel_rfl) hd85 Try.ntmps85 rfl H

/-- spec.l1OwnS -/
def c117 : IC :=
  (.seq
  (.reg [
    ⟨some 2, .assign (.const (.slice none 0 0)), none⟩])
  (.seq
  (.reg [
    ⟨some 3, .buildSlice 58 0 #[], none⟩,
    ⟨some 4, .move (.tmp 0), none⟩,
    ⟨some 5, .call { callee := .builtin .append, args := #[.tmp 3, .tmp 4], argTypes := #[58, 58] }, none⟩,
    ⟨some 2, .assign (.tmp 5), none⟩])
  .ret))
theorem hd117 : Try.f117.body.map dec = some c117 := by kernel_rfl
theorem e117 {R : AV → AH → Prop} {h : AH} (x0 : AV) (H : h.wf → AI Try.prog c117 (RetQ Try.prog [.tmp 2] R) [x0, un, un, un, un, un] h) : AC Try.prog 117 [x0] h R :=
  AC_of' (rs := [.tmp 2]) Try.func117 (by kernel_rfl) hd117 Try.ntmps117 rfl H

noncomputable def rg50_0 : Array Oper := rawAt Try.f50 0
noncomputable def rg50_1 : Array Oper := rawAt Try.f50 1
/-- spec.RunWords -/
noncomputable def c50 : IC :=
  (.seq
  (.reg [
    ⟨some 2, .box 31 (.tmp 0), none⟩,
    ⟨some 4, .assign (.const (.slice none 0 0)), none⟩,
    ⟨some 5, .assign (.const (.bool false)), none⟩])
  (.seq
  (.seq
  (.reg [
    ⟨some 14, .load 31 (.tmp 2), none⟩,
    ⟨some 15, .call { callee := .value (.func 85), args := #[.tmp 14], argTypes := #[31] }, none⟩,
    ⟨some 16, .unOp .not 4 (.tmp 15), none⟩,
    ⟨some 17, .move (.tmp 16), none⟩,
    ⟨some 18, .move (.tmp 1), some (17, false)⟩,
    ⟨some 19, .call { callee := .builtin .len, args := #[.tmp 18], argTypes := #[58] }, some (17, false)⟩,
    ⟨some 20, .fieldAddr 31 (.tmp 2) 0, some (17, false)⟩,
    ⟨some 21, .load 3 (.tmp 20), some (17, false)⟩,
    ⟨some 22, .binOp .neq 3 (.tmp 19) (.tmp 21) 3, some (17, false)⟩,
    ⟨some 23, .pick (.tmp 17) (.const (.bool true)) (.tmp 22), none⟩])
  (.cond (.tmp 23)
    (.seq
    (.reg [
      ⟨some 4, .assign (.const (.slice none 0 0)), none⟩,
      ⟨some 5, .assign (.const (.bool false)), none⟩])
    .ret)
    .skip))
  (.seq
  (.reg [
    ⟨some 24, .move (.tmp 1), none⟩,
    ⟨some 25, .call { callee := .value (.func 117), args := #[.tmp 24], argTypes := #[58] }, none⟩,
    ⟨some 6, .assign (.tmp 25), none⟩])
  (.seq
  (.seq
  (.reg [
    ⟨some 26, .fieldAddr 31 (.tmp 2) 1, none⟩,
    ⟨some 27, .load 28 (.tmp 26), none⟩,
    ⟨some 28, .call { callee := .builtin .len, args := #[.tmp 27], argTypes := #[28] }, none⟩,
    ⟨some 29, .move (.const (.int .i64 0)), none⟩])
  (.block 0
  (.loop
    (.seq
    (.reg [
      ⟨some 30, .binOp .lss 3 (.tmp 29) (.tmp 28) 3, none⟩])
    (.seq
    (.cond (.tmp 30)
      .skip
      (.exit 0))
    (.seq
    (.block 1
    (.seq
    (.reg [
      ⟨some 31, .indexAddr 28 (.tmp 27) (.tmp 29), none⟩,
      ⟨some 32, .load 108 (.tmp 31), none⟩,
      ⟨some 8, .alloc 108, none⟩,
      ⟨none, .store 108 (.tmp 8) (.tmp 32), none⟩])
    (.seq
    (.seq
    (.raw (.region 7 rg50_0 true))
    (.cond (.tmp 46)
      (.seq
      (.reg [
        ⟨some 4, .assign (.const (.slice none 0 0)), none⟩,
        ⟨some 5, .assign (.const (.bool false)), none⟩])
      .ret)
      .skip))
    (.raw (.region 9 rg50_1 true)))))
    (.reg [
      ⟨some 61, .binOp .add 3 (.tmp 29) (.const (.int .i64 1)) 3, none⟩,
      ⟨some 29, .move (.tmp 61), none⟩])))))))
  (.seq
  (.reg [
    ⟨some 9, .assign (.const (.slice none 0 0)), none⟩])
  (.seq
  (.seq
  (.reg [
    ⟨some 62, .fieldAddr 31 (.tmp 2) 2, none⟩,
    ⟨some 63, .load 29 (.tmp 62), none⟩,
    ⟨some 64, .call { callee := .builtin .len, args := #[.tmp 63], argTypes := #[29] }, none⟩,
    ⟨some 65, .move (.const (.int .i64 0)), none⟩])
  (.block 2
  (.loop
    (.seq
    (.reg [
      ⟨some 66, .binOp .lss 3 (.tmp 65) (.tmp 64) 3, none⟩])
    (.seq
    (.cond (.tmp 66)
      .skip
      (.exit 2))
    (.seq
    (.block 3
    (.seq
    (.reg [
      ⟨some 67, .indexAddr 29 (.tmp 63) (.tmp 65), none⟩,
      ⟨some 68, .load 3 (.tmp 67), none⟩,
      ⟨some 11, .assign (.tmp 68), none⟩])
    (.reg [
      ⟨some 69, .move (.tmp 9), none⟩,
      ⟨some 70, .move (.tmp 6), none⟩,
      ⟨some 71, .move (.tmp 11), none⟩,
      ⟨some 72, .indexAddr 58 (.tmp 70) (.tmp 71), none⟩,
      ⟨some 73, .load 9 (.tmp 72), none⟩,
      ⟨some 74, .buildSlice 58 1 #[(0, .tmp 73)], none⟩,
      ⟨some 75, .call { callee := .builtin .append, args := #[.tmp 69, .tmp 74], argTypes := #[58, 58] }, none⟩,
      ⟨some 9, .assign (.tmp 75), none⟩])))
    (.reg [
      ⟨some 76, .binOp .add 3 (.tmp 65) (.const (.int .i64 1)) 3, none⟩,
      ⟨some 65, .move (.tmp 76), none⟩])))))))
  (.seq
  (.seq
  (.reg [
    ⟨some 77, .move (.tmp 1), none⟩,
    ⟨some 78, .call { callee := .builtin .len, args := #[.tmp 77], argTypes := #[58] }, none⟩,
    ⟨some 79, .move (.const (.int .i64 0)), none⟩])
  (.block 4
  (.loop
    (.seq
    (.reg [
      ⟨some 80, .binOp .lss 3 (.tmp 79) (.tmp 78) 3, none⟩])
    (.seq
    (.cond (.tmp 80)
      .skip
      (.exit 4))
    (.seq
    (.block 5
    (.seq
    (.reg [
      ⟨some 81, .indexAddr 58 (.tmp 77) (.tmp 79), none⟩,
      ⟨some 82, .load 9 (.tmp 81), none⟩,
      ⟨some 13, .assign (.tmp 82), none⟩])
    (.seq
    (.reg [
      ⟨some 83, .move (.tmp 13), none⟩,
      ⟨some 84, .call { callee := .builtin .len, args := #[.tmp 83], argTypes := #[9] }, none⟩,
      ⟨some 85, .binOp .gtr 3 (.tmp 84) (.const (.int .i64 2000)) 3, none⟩])
    (.cond (.tmp 85)
      (.seq
      (.reg [
        ⟨some 4, .assign (.const (.slice none 0 0)), none⟩,
        ⟨some 5, .assign (.const (.bool false)), none⟩])
      .ret)
      .skip))))
    (.reg [
      ⟨some 86, .binOp .add 3 (.tmp 79) (.const (.int .i64 1)) 3, none⟩,
      ⟨some 79, .move (.tmp 86), none⟩])))))))
  (.seq
  (.reg [
    ⟨some 87, .move (.tmp 9), none⟩,
    ⟨some 4, .assign (.tmp 87), none⟩,
    ⟨some 5, .assign (.const (.bool true)), none⟩])
  .ret))))))))
theorem hd50 : Try.f50.body.map dec = some c50 := by kernel_rfl
theorem e50 {R : AV → AH → Prop} {h : AH} (x0 x1 : AV) (H : h.wf → AI Try.prog c50 (RetQ Try.prog [.tmp 4, .tmp 5] R) [x0, x1, un, un, un, un, un, un, un, un, un, un, un, un, un, un, un, un, un, un, un, un, un, un, un, un, un, un, un, un, un, un, un, un, un, un, un, un, un, un, un, un, un, un, un, un, un, un, un, un, un, un, un, un, un, un, un, un, un, un, un, un, un, un, un, un, un, un, un, un, un, un, un, un, un, un, un, un, un, un, un, un, un, un, un, un, un, un] h) : AC Try.prog 50 [x0, x1] h R :=
  AC_of' (rs := [.tmp 4, .tmp 5]) Try.func50 (by kernel_rfl) hd50 Try.ntmps50 rfl H
theorem dz50_0 {h0 : AH} {L : List It} {Q : Exit → List AV → List It → Prop} {a : List AV} {id : Nat} (H : LX Try.prog ⟨[], []⟩ h0 L L (.c (⟨some 33, .move (.tmp 6), none⟩, .p) <| .c (⟨some 34, .fieldAddr 108 (.tmp 8) 0, none⟩, .p) <| .c (⟨some 35, .load 3 (.tmp 34), none⟩, .l) <| .c (⟨some 36, .indexAddr 58 (.tmp 33) (.tmp 35), none⟩, .p) <| .c (⟨some 37, .load 9 (.tmp 36), none⟩, .l) <| .c (⟨some 38, .call { callee := .builtin .len, args := #[.tmp 37], argTypes := #[9] }, none⟩, .p) <| .c (⟨some 39, .move (.tmp 6), none⟩, .p) <| .c (⟨some 40, .fieldAddr 108 (.tmp 8) 1, none⟩, .p) <| .c (⟨some 41, .load 3 (.tmp 40), none⟩, .l) <| .c (⟨some 42, .indexAddr 58 (.tmp 39) (.tmp 41), none⟩, .p) <| .c (⟨some 43, .load 9 (.tmp 42), none⟩, .l) <| .c (⟨some 44, .call { callee := .builtin .len, args := #[.tmp 43], argTypes := #[9] }, none⟩, .p) <| .c (⟨some 45, .binOp .add 3 (.tmp 38) (.tmp 44) 3, none⟩, .p) <| .c (⟨some 46, .binOp .gtr 3 (.tmp 45) (.const (.int .i64 2000)) 3, none⟩, .p) <| .n) Q a) : LI Try.prog h0 L (.raw (.region id rg50_0 true)) Q a :=
  LI_draw (.c (0, .p) <| .c (1, .p) <| .c (2, .l) <| .c (3, .p) <| .c (4, .l) <| .c (5, .p) <| .c (6, .p) <| .c (7, .p) <| .c (8, .l) <| .c (9, .p) <| .c (10, .l) <| .c (11, .p) <| .c (12, .p) <| .c (13, .p) <| .n) [] (by kernel_rfl) (by kernel_rfl) (by kernel_rfl) H
theorem dr50_0 (m : Nat) {Q : Exit → List AV → AH → Prop} {a : List AV} {h : AH} {id : Nat} (H : AX Try.prog m h [(⟨some 33, .move (.tmp 6), none⟩, true),
  (⟨some 34, .fieldAddr 108 (.tmp 8) 0, none⟩, true),
  (⟨some 35, .load 3 (.tmp 34), none⟩, true),
  (⟨some 36, .indexAddr 58 (.tmp 33) (.tmp 35), none⟩, true),
  (⟨some 37, .load 9 (.tmp 36), none⟩, true),
  (⟨some 38, .call { callee := .builtin .len, args := #[.tmp 37], argTypes := #[9] }, none⟩, true),
  (⟨some 39, .move (.tmp 6), none⟩, true),
  (⟨some 40, .fieldAddr 108 (.tmp 8) 1, none⟩, true),
  (⟨some 41, .load 3 (.tmp 40), none⟩, true),
  (⟨some 42, .indexAddr 58 (.tmp 39) (.tmp 41), none⟩, true),
  (⟨some 43, .load 9 (.tmp 42), none⟩, true),
  (⟨some 44, .call { callee := .builtin .len, args := #[.tmp 43], argTypes := #[9] }, none⟩, true),
  (⟨some 45, .binOp .add 3 (.tmp 38) (.tmp 44) 3, none⟩, true),
  (⟨some 46, .binOp .gtr 3 (.tmp 45) (.const (.int .i64 2000)) 3, none⟩, true)] (fun a' h' => Q .normal a' h') a h) : AI Try.prog (.raw (.region id rg50_0 true)) Q a h :=
  AI_draw [(0, true), (1, true), (2, true), (3, true), (4, true), (5, true), (6, true), (7, true), (8, true), (9, true), (10, true), (11, true), (12, true), (13, true)] m (by kernel_rfl) (by kernel_rfl) (by kernel_rfl) H
theorem dz50_1 {h0 : AH} {L : List It} {Q : Exit → List AV → List It → Prop} {a : List AV} {id : Nat} (H : LX Try.prog ⟨[13], []⟩ h0 L L (.c (⟨some 47, .move (.tmp 6), none⟩, .p) <| .c (⟨some 48, .move (.tmp 6), none⟩, .p) <| .c (⟨some 49, .fieldAddr 108 (.tmp 8) 0, none⟩, .p) <| .c (⟨some 50, .load 3 (.tmp 49), none⟩, .l) <| .c (⟨some 51, .indexAddr 58 (.tmp 48) (.tmp 50), none⟩, .p) <| .c (⟨some 52, .load 9 (.tmp 51), none⟩, .l) <| .c (⟨some 53, .move (.tmp 6), none⟩, .p) <| .c (⟨some 54, .fieldAddr 108 (.tmp 8) 1, none⟩, .p) <| .c (⟨some 55, .load 3 (.tmp 54), none⟩, .l) <| .c (⟨some 56, .indexAddr 58 (.tmp 53) (.tmp 55), none⟩, .p) <| .c (⟨some 57, .load 9 (.tmp 56), none⟩, .l) <| .c (⟨some 58, .binOp .add 9 (.tmp 52) (.tmp 57) 9, none⟩, .p) <| .c (⟨some 59, .buildSlice 58 1 #[(0, .tmp 58)], none⟩, .e) <| .c (⟨some 60, .call { callee := .builtin .append, args := #[.tmp 47, .tmp 59], argTypes := #[58, 58] }, none⟩, .f) <| .c (⟨some 6, .assign (.tmp 60), none⟩, .p) <| .n) Q a) : LI Try.prog h0 L (.raw (.region id rg50_1 true)) Q a :=
  LI_draw (.c (0, .p) <| .c (1, .p) <| .c (2, .p) <| .c (3, .l) <| .c (4, .p) <| .c (5, .l) <| .c (6, .p) <| .c (7, .p) <| .c (8, .l) <| .c (9, .p) <| .c (10, .l) <| .c (11, .p) <| .c (12, .e) <| .c (13, .f) <| .c (14, .p) <| .n) [13] (by kernel_rfl) (by kernel_rfl) (by kernel_rfl) H
theorem dy50_1 {h0 : AH} {L : List It} {Q : Exit → List AV → List It → Prop} {a : List AV} {id : Nat} (H : LX Try.prog ⟨[12, 13], []⟩ h0 L L (.c (⟨some 47, .move (.tmp 6), none⟩, .p) <| .c (⟨some 48, .move (.tmp 6), none⟩, .p) <| .c (⟨some 49, .fieldAddr 108 (.tmp 8) 0, none⟩, .p) <| .c (⟨some 50, .load 3 (.tmp 49), none⟩, .l) <| .c (⟨some 51, .indexAddr 58 (.tmp 48) (.tmp 50), none⟩, .p) <| .c (⟨some 52, .load 9 (.tmp 51), none⟩, .l) <| .c (⟨some 53, .move (.tmp 6), none⟩, .p) <| .c (⟨some 54, .fieldAddr 108 (.tmp 8) 1, none⟩, .p) <| .c (⟨some 55, .load 3 (.tmp 54), none⟩, .l) <| .c (⟨some 56, .indexAddr 58 (.tmp 53) (.tmp 55), none⟩, .p) <| .c (⟨some 57, .load 9 (.tmp 56), none⟩, .l) <| .c (⟨some 58, .binOp .add 9 (.tmp 52) (.tmp 57) 9, none⟩, .p) <| .c (⟨some 59, .buildSlice 58 1 #[(0, .tmp 58)], none⟩, .f) <| .c (⟨some 60, .call { callee := .builtin .append, args := #[.tmp 47, .tmp 59], argTypes := #[58, 58] }, none⟩, .f) <| .c (⟨some 6, .assign (.tmp 60), none⟩, .p) <| .n) Q a) : LI Try.prog h0 L (.raw (.region id rg50_1 true)) Q a :=
  LI_draw (.c (0, .p) <| .c (1, .p) <| .c (2, .p) <| .c (3, .l) <| .c (4, .p) <| .c (5, .l) <| .c (6, .p) <| .c (7, .p) <| .c (8, .l) <| .c (9, .p) <| .c (10, .l) <| .c (11, .p) <| .c (12, .f) <| .c (13, .f) <| .c (14, .p) <| .n) [12, 13] (by kernel_rfl) (by kernel_rfl) (by kernel_rfl) H
theorem dr50_1 (m : Nat) {Q : Exit → List AV → AH → Prop} {a : List AV} {h : AH} {id : Nat} (H : AX Try.prog m h [(⟨some 47, .move (.tmp 6), none⟩, true),
  (⟨some 48, .move (.tmp 6), none⟩, true),
  (⟨some 49, .fieldAddr 108 (.tmp 8) 0, none⟩, true),
  (⟨some 50, .load 3 (.tmp 49), none⟩, true),
  (⟨some 51, .indexAddr 58 (.tmp 48) (.tmp 50), none⟩, true),
  (⟨some 52, .load 9 (.tmp 51), none⟩, true),
  (⟨some 53, .move (.tmp 6), none⟩, true),
  (⟨some 54, .fieldAddr 108 (.tmp 8) 1, none⟩, true),
  (⟨some 55, .load 3 (.tmp 54), none⟩, true),
  (⟨some 56, .indexAddr 58 (.tmp 53) (.tmp 55), none⟩, true),
  (⟨some 57, .load 9 (.tmp 56), none⟩, true),
  (⟨some 58, .binOp .add 9 (.tmp 52) (.tmp 57) 9, none⟩, true),
  (⟨some 59, .buildSlice 58 1 #[(0, .tmp 58)], none⟩, false),
  (⟨some 60, .call { callee := .builtin .append, args := #[.tmp 47, .tmp 59], argTypes := #[58, 58] }, none⟩, false),
  (⟨some 6, .assign (.tmp 60), none⟩, true)] (fun a' h' => Q .normal a' h') a h) : AI Try.prog (.raw (.region id rg50_1 true)) Q a h :=
  AI_draw [(0, true), (1, true), (2, true), (3, true), (4, true), (5, true), (6, true), (7, true), (8, true), (9, true), (10, true), (11, true), (12, false), (13, false), (14, true)] m (by kernel_rfl) (by kernel_rfl) (by kernel_rfl) H

/-- laws.toStringS -/
def c51 : IC :=
  (.seq
  (.reg [
    ⟨some 2, .assign (.const (.slice none 0 0)), none⟩])
  (.seq
  (.reg [
    ⟨some 5, .move (.tmp 0), none⟩,
    ⟨some 6, .call { callee := .builtin .len, args := #[.tmp 5], argTypes := #[58] }, none⟩,
    ⟨some 7, .makeSlice 58 (.tmp 6) (.tmp 6), none⟩,
    ⟨some 3, .assign (.tmp 7), none⟩])
  (.seq
  (.seq
  (.reg [
    ⟨some 4, .assign (.const (.int .i64 0)), none⟩])
  (.block 0
  (.loop
    (.seq
    (.seq
    (.reg [
      ⟨some 8, .move (.tmp 4), none⟩,
      ⟨some 9, .move (.tmp 0), none⟩,
      ⟨some 10, .call { callee := .builtin .len, args := #[.tmp 9], argTypes := #[58] }, none⟩,
      ⟨some 11, .binOp .lss 3 (.tmp 8) (.tmp 10) 3, none⟩])
    (.cond (.tmp 11)
      .skip
      (.exit 0)))
    (.seq
    (.block 1
    (.reg [
      ⟨some 14, .move (.tmp 3), none⟩,
      ⟨some 15, .move (.tmp 4), none⟩,
      ⟨some 16, .move (.tmp 0), none⟩,
      ⟨some 17, .move (.tmp 4), none⟩,
      ⟨some 18, .indexAddr 58 (.tmp 16) (.tmp 17), none⟩,
      ⟨some 19, .load 9 (.tmp 18), none⟩,
      ⟨some 20, .indexAddr 58 (.tmp 14) (.tmp 15), none⟩,
      ⟨none, .store 9 (.tmp 20) (.tmp 19), none⟩]))
    (.reg [
      ⟨some 12, .move (.tmp 4), none⟩,
      ⟨some 13, .binOp .add 3 (.tmp 12) (.const (.int .i64 1)) 3, none⟩,
      ⟨some 4, .assign (.tmp 13), none⟩]))))))
  (.seq
  (.reg [
    ⟨some 21, .move (.tmp 3), none⟩,
    ⟨some 2, .assign (.tmp 21), none⟩])
  .ret))))
theorem hd51 : Try.f51.body.map dec = some c51 := by kernel_rfl
theorem e51 {R : AV → AH → Prop} {h : AH} (x0 : AV) (H : h.wf → AI Try.prog c51 (RetQ Try.prog [.tmp 2] R) [x0, un, un, un, un, un, un, un, un, un, un, un, un, un, un, un, un, un, un, un, un, un] h) : AC Try.prog 51 [x0] h R :=
  AC_of' (rs := [.tmp 2]) Try.func51 (by kernel_rfl) hd51 Try.ntmps51 rfl H

/-- impl.in -/
def c104 : IC :=
  (.seq
  (.reg [
    ⟨some 6, .assign (.const (.bool false)), none⟩])
  (.seq
  (.reg [
    ⟨some 7, .move (.tmp 0), none⟩,
    ⟨some 8, .move (.tmp 1), none⟩,
    ⟨some 9, .binOp .geq 3 (.tmp 7) (.tmp 8) 3, none⟩,
    ⟨some 10, .move (.tmp 9), none⟩,
    ⟨some 11, .move (.tmp 0), some (10, true)⟩,
    ⟨some 12, .move (.tmp 2), some (10, true)⟩,
    ⟨some 13, .binOp .leq 3 (.tmp 11) (.tmp 12) 3, some (10, true)⟩,
    ⟨some 14, .pick (.tmp 10) (.tmp 13) (.const (.bool false)), none⟩,
    ⟨some 6, .assign (.tmp 14), none⟩])
  .ret))
theorem hd104 : Try.f104.body.map dec = some c104 := by kernel_rfl
theorem e104 {R : AV → AH → Prop} {h : AH} (x0 x1 x2 : AV) (H : h.wf → AI Try.prog c104 (RetQ Try.prog [.tmp 6] R) [x0, x1, x2, un, un, un, un, un, un, un, un, un, un, un, un] h) : AC Try.prog 104 [x0, x1, x2] h R :=
  AC_of' (rs := [.tmp 6]) Try.func104 (by kernel_rfl) hd104 Try.ntmps104 rfl H

/-- slices.IndexFunc[[]int,int] -/
def c143 : IC :=
  (.seq
  (.reg [
    ⟨some 4, .assign (.const (.int .i64 0)), none⟩])
  (.seq
  (.seq
  (.reg [
    ⟨some 6, .move (.tmp 0), none⟩,
    ⟨some 7, .call { callee := .builtin .len, args := #[.tmp 6], argTypes := #[29] }, none⟩,
    ⟨some 8, .move (.const (.int .i64 0)), none⟩])
  (.block 0
  (.loop
    (.seq
    (.reg [
      ⟨some 9, .binOp .lss 3 (.tmp 8) (.tmp 7) 3, none⟩])
    (.seq
    (.cond (.tmp 9)
      .skip
      (.exit 0))
    (.seq
    (.block 1
    (.seq
    (.reg [
      ⟨some 10, .move (.tmp 8), none⟩,
      ⟨some 5, .assign (.tmp 10), none⟩])
    (.seq
    (.reg [
      ⟨some 11, .move (.tmp 1), none⟩,
      ⟨some 12, .move (.tmp 0), none⟩,
      ⟨some 13, .move (.tmp 5), none⟩,
      ⟨some 14, .indexAddr 29 (.tmp 12) (.tmp 13), none⟩,
      ⟨some 15, .load 3 (.tmp 14), none⟩,
      ⟨some 16, .call { callee := .value (.tmp 11), args := #[.tmp 15], argTypes := #[3] }, none⟩])
    (.cond (.tmp 16)
      (.seq
      (.reg [
        ⟨some 17, .move (.tmp 5), none⟩,
        ⟨some 4, .assign (.tmp 17), none⟩])
      .ret)
      .skip))))
    (.reg [
      ⟨some 18, .binOp .add 3 (.tmp 8) (.const (.int .i64 1)) 3, none⟩,
      ⟨some 8, .move (.tmp 18), none⟩])))))))
  (.seq
  (.reg [
    ⟨some 4, .assign (.const (.int .i64 (-1))), none⟩])
  .ret)))
theorem hd143 : Try.f143.body.map dec = some c143 := by kernel_rfl
theorem e143 {R : AV → AH → Prop} {h : AH} (x0 x1 : AV) (H : h.wf → AI Try.prog c143 (RetQ Try.prog [.tmp 4] R) [x0, x1, un, un, un, un, un, un, un, un, un, un, un, un, un, un, un, un, un] h) : AC Try.prog 143 [x0, x1] h R :=
  AC_of' (rs := [.tmp 4]) Try.func143 (by kernel_rfl) hd143 Try.ntmps143 rfl H

/-- slices.ContainsFunc[[]int,int] -/
def c105 : IC :=
  (.seq
  (.reg [
    ⟨some 4, .assign (.const (.bool false)), none⟩])
  (.seq
  (.reg [
    ⟨some 5, .move (.tmp 0), none⟩,
    ⟨some 6, .move (.tmp 1), none⟩,
    ⟨some 7, .call { callee := .value (.func 143), args := #[.tmp 5, .tmp 6], argTypes := #[29, 24] }, none⟩,
    ⟨some 8, .binOp .geq 3 (.tmp 7) (.const (.int .i64 0)) 3, none⟩,
    ⟨some 4, .assign (.tmp 8), none⟩])
  .ret))
theorem hd105 : Try.f105.body.map dec = some c105 := by kernel_rfl
theorem e105 {R : AV → AH → Prop} {h : AH} (x0 x1 : AV) (H : h.wf → AI Try.prog c105 (RetQ Try.prog [.tmp 4] R) [x0, x1, un, un, un, un, un, un, un] h) : AC Try.prog 105 [x0, x1] h R :=
  AC_of' (rs := [.tmp 4]) Try.func105 (by kernel_rfl) hd105 Try.ntmps105 rfl H

noncomputable def rg115_0 : Array Oper := rawAt Try.f115 0
/-- (*impl.Plan).many -/
noncomputable def c115 : IC :=
  (.seq
  (.reg [
    ⟨some 2, .assign (.const (.int .i64 0)), none⟩])
  (.seq
  (.raw (.region 1 rg115_0 true))
  .ret))
theorem hd115 : Try.f115.body.map dec = some c115 := by kernel_rfl
theorem e115 {R : AV → AH → Prop} {h : AH} (x0 : AV) (H : h.wf → AI Try.prog c115 (RetQ Try.prog [.tmp 2] R) [x0, un, un, un, un, un, un, un, un, un, un, un, un] h) : AC Try.prog 115 [x0] h R :=
  AC_of' (rs := [.tmp 2]) Try.func115 (by kernel_rfl) hd115 Try.ntmps115 rfl H
theorem dz115_0 {h0 : AH} {L : List It} {Q : Exit → List AV → List It → Prop} {a : List AV} {id : Nat} (H : LX Try.prog ⟨[], []⟩ h0 L L (.c (⟨some 3, .move (.tmp 0), none⟩, .p) <| .c (⟨some 4, .nilCheck (.tmp 3), none⟩, .p) <| .c (⟨some 5, .fieldAddr 31 (.tmp 4) 0, none⟩, .p) <| .c (⟨some 6, .load 3 (.tmp 5), none⟩, .l) <| .c (⟨some 7, .move (.tmp 0), none⟩, .p) <| .c (⟨some 8, .nilCheck (.tmp 7), none⟩, .p) <| .c (⟨some 9, .fieldAddr 31 (.tmp 8) 1, none⟩, .p) <| .c (⟨some 10, .load 28 (.tmp 9), none⟩, .l) <| .c (⟨some 11, .call { callee := .builtin .len, args := #[.tmp 10], argTypes := #[28] }, none⟩, .p) <| .c (⟨some 12, .binOp .add 3 (.tmp 6) (.tmp 11) 3, none⟩, .p) <| .c (⟨some 2, .assign (.tmp 12), none⟩, .p) <| .n) Q a) : LI Try.prog h0 L (.raw (.region id rg115_0 true)) Q a :=
  LI_draw (.c (0, .p) <| .c (1, .p) <| .c (2, .p) <| .c (3, .l) <| .c (4, .p) <| .c (5, .p) <| .c (6, .p) <| .c (7, .l) <| .c (8, .p) <| .c (9, .p) <| .c (10, .p) <| .n) [] (by kernel_rfl) (by kernel_rfl) (by kernel_rfl) H
theorem dr115_0 (m : Nat) {Q : Exit → List AV → AH → Prop} {a : List AV} {h : AH} {id : Nat} (H : AX Try.prog m h [(⟨some 3, .move (.tmp 0), none⟩, true),
  (⟨some 4, .nilCheck (.tmp 3), none⟩, true),
  (⟨some 5, .fieldAddr 31 (.tmp 4) 0, none⟩, true),
  (⟨some 6, .load 3 (.tmp 5), none⟩, true),
  (⟨some 7, .move (.tmp 0), none⟩, true),
  (⟨some 8, .nilCheck (.tmp 7), none⟩, true),
  (⟨some 9, .fieldAddr 31 (.tmp 8) 1, none⟩, true),
  (⟨some 10, .load 28 (.tmp 9), none⟩, true),
  (⟨some 11, .call { callee := .builtin .len, args := #[.tmp 10], argTypes := #[28] }, none⟩, true),
  (⟨some 12, .binOp .add 3 (.tmp 6) (.tmp 11) 3, none⟩, true),
  (⟨some 2, .assign (.tmp 12), none⟩, true)] (fun a' h' => Q .normal a' h') a h) : AI Try.prog (.raw (.region id rg115_0 true)) Q a h :=
  AI_draw [(0, true), (1, true), (2, true), (3, true), (4, true), (5, true), (6, true), (7, true), (8, true), (9, true), (10, true)] m (by kernel_rfl) (by kernel_rfl) (by kernel_rfl) H

/-- (*impl.Plan).formed$1 -/
def c156 : IC :=
  (.seq
  (.reg [
    ⟨some 3, .assign (.const (.bool false)), none⟩])
  (.seq
  (.reg [
    ⟨some 4, .move (.tmp 0), none⟩,
    ⟨some 5, .load 87 (.tmp 1), none⟩,
    ⟨some 6, .call { callee := .value (.func 115), args := #[.tmp 5], argTypes := #[87] }, none⟩,
    ⟨some 7, .binOp .sub 3 (.tmp 6) (.const (.int .i64 1)) 3, none⟩,
    ⟨some 8, .call { callee := .value (.func 104), args := #[.tmp 4, .const (.int .i64 0), .tmp 7], argTypes := #[3, 3, 3] }, none⟩,
    ⟨some 9, .unOp .not 4 (.tmp 8), none⟩,
    ⟨some 3, .assign (.tmp 9), none⟩])
  .ret))
theorem hd156 : Try.f156.body.map dec = some c156 := by kernel_rfl
theorem e156 {R : AV → AH → Prop} {h : AH} (x0 x1 : AV) (H : h.wf → AI Try.prog c156 (RetQ Try.prog [.tmp 3] R) [x0, x1, un, un, un, un, un, un, un, un] h) : AC Try.prog 156 [x0, x1] h R :=
  AC_of' (rs := [.tmp 3]) Try.func156 (by kernel_rfl) hd156 Try.ntmps156 rfl H

noncomputable def rg131_0 : Array Oper := rawAt Try.f131 0
-- NO ORDER
/-- (*impl.Plan).formed -/
noncomputable def c131 : IC :=
  (.seq
  (.reg [
    ⟨some 1, .box 87 (.tmp 0), none⟩,
    ⟨some 2, .assign (.const (.bool false)), none⟩])
  (.seq
  (.seq
  (.reg [
    ⟨some 5, .load 87 (.tmp 1), none⟩,
    ⟨some 6, .nilCheck (.tmp 5), none⟩,
    ⟨some 7, .fieldAddr 31 (.tmp 6) 0, none⟩,
    ⟨some 8, .load 3 (.tmp 7), none⟩,
    ⟨some 9, .call { callee := .value (.func 104), args := #[.tmp 8, .const (.int .i64 1), .const (.int .i64 6)], argTypes := #[3, 3, 3] }, none⟩,
    ⟨some 10, .unOp .not 4 (.tmp 9), none⟩,
    ⟨some 11, .move (.tmp 10), none⟩,
    ⟨some 12, .load 87 (.tmp 1), some (11, false)⟩,
    ⟨some 13, .nilCheck (.tmp 12), some (11, false)⟩,
    ⟨some 14, .fieldAddr 31 (.tmp 13) 1, some (11, false)⟩,
    ⟨some 15, .load 28 (.tmp 14), some (11, false)⟩,
    ⟨some 16, .call { callee := .builtin .len, args := #[.tmp 15], argTypes := #[28] }, some (11, false)⟩,
    ⟨some 17, .binOp .gtr 3 (.tmp 16) (.const (.int .i64 40)) 3, some (11, false)⟩,
    ⟨some 18, .pick (.tmp 11) (.const (.bool true)) (.tmp 17), none⟩,
    ⟨some 19, .move (.tmp 18), none⟩,
    ⟨some 20, .load 87 (.tmp 1), some (19, false)⟩,
    ⟨some 21, .nilCheck (.tmp 20), some (19, false)⟩,
    ⟨some 22, .fieldAddr 31 (.tmp 21) 2, some (19, false)⟩,
    ⟨some 23, .load 29 (.tmp 22), some (19, false)⟩,
    ⟨some 24, .call { callee := .builtin .len, args := #[.tmp 23], argTypes := #[29] }, some (19, false)⟩,
    ⟨some 25, .binOp .gtr 3 (.tmp 24) (.const (.int .i64 6)) 3, some (19, false)⟩,
    ⟨some 26, .pick (.tmp 19) (.const (.bool true)) (.tmp 25), none⟩])
  (.cond (.tmp 26)
    (.seq
    (.reg [
      ⟨some 2, .assign (.const (.bool false)), none⟩])
    .ret)
    .skip))
  (.seq
  (.seq
  (.reg [
    ⟨some 27, .load 87 (.tmp 1), none⟩,
    ⟨some 28, .nilCheck (.tmp 27), none⟩,
    ⟨some 29, .fieldAddr 31 (.tmp 28) 1, none⟩,
    ⟨some 30, .load 28 (.tmp 29), none⟩,
    ⟨some 31, .call { callee := .builtin .len, args := #[.tmp 30], argTypes := #[28] }, none⟩,
    ⟨some 32, .move (.const (.int .i64 0)), none⟩])
  (.block 0
  (.loop
    (.seq
    (.reg [
      ⟨some 33, .binOp .lss 3 (.tmp 32) (.tmp 31) 3, none⟩])
    (.seq
    (.cond (.tmp 33)
      .skip
      (.exit 0))
    (.seq
    (.block 1
    (.seq
    (.reg [
      ⟨some 34, .move (.tmp 32), none⟩,
      ⟨some 35, .indexAddr 28 (.tmp 30) (.tmp 32), none⟩,
      ⟨some 36, .load 108 (.tmp 35), none⟩,
      ⟨some 4, .alloc 108, none⟩,
      ⟨some 3, .assign (.tmp 34), none⟩,
      ⟨none, .store 108 (.tmp 4) (.tmp 36), none⟩])
    (.seq
    (.raw (.region 6 rg131_0 true))
    (.cond (.tmp 57)
      (.seq
      (.reg [
        ⟨some 2, .assign (.const (.bool false)), none⟩])
      .ret)
      .skip))))
    (.reg [
      ⟨some 58, .binOp .add 3 (.tmp 32) (.const (.int .i64 1)) 3, none⟩,
      ⟨some 32, .move (.tmp 58), none⟩])))))))
  (.seq
  (.reg [
    ⟨some 59, .load 87 (.tmp 1), none⟩,
    ⟨some 60, .nilCheck (.tmp 59), none⟩,
    ⟨some 61, .fieldAddr 31 (.tmp 60) 2, none⟩,
    ⟨some 62, .load 29 (.tmp 61), none⟩,
    ⟨some 63, .makeFunc (.func 156) #[] #[.tmp 1], none⟩,
    ⟨some 64, .call { callee := .value (.func 105), args := #[.tmp 62, .tmp 63], argTypes := #[29, 24] }, none⟩,
    ⟨some 65, .unOp .not 4 (.tmp 64), none⟩,
    ⟨some 2, .assign (.tmp 65), none⟩])
  .ret))))
theorem hd131 : Try.f131.body.map dec = some c131 := by kernel_rfl
theorem e131 {R : AV → AH → Prop} {h : AH} (x0 : AV) (H : h.wf → AI Try.prog c131 (RetQ Try.prog [.tmp 2] R) [x0, un, un, un, un, un, un, un, un, un, un, un, un, un, un, un, un, un, un, un, un, un, un, un, un, un, un, un, un, un, un, un, un, un, un, un, un, un, un, un, un, un, un, un, un, un, un, un, un, un, un, un, un, un, un, un, un, un, un, un, un, un, un, un, un, un] h) : AC Try.prog 131 [x0] h R :=
  AC_of' (rs := [.tmp 2]) Try.func131 (by kernel_rfl) hd131 Try.ntmps131 rfl H
theorem dz131_0 {h0 : AH} {L : List It} {Q : Exit → List AV → List It → Prop} {a : List AV} {id : Nat} (H : LX Try.prog ⟨[], []⟩ h0 L L (.c (⟨some 37, .fieldAddr 108 (.tmp 4) 0, none⟩, .p) <| .c (⟨some 38, .load 3 (.tmp 37), none⟩, .l) <| .c (⟨some 39, .binOp .lss 3 (.tmp 38) (.const (.int .i64 0)) 3, none⟩, .p) <| .c (⟨some 40, .move (.tmp 39), none⟩, .p) <| .c (⟨some 41, .fieldAddr 108 (.tmp 4) 0, some (40, false)⟩, .p) <| .c (⟨some 42, .load 3 (.tmp 41), some (40, false)⟩, .l) <| .c (⟨some 43, .fieldAddr 108 (.tmp 4) 1, some (40, false)⟩, .p) <| .c (⟨some 44, .load 3 (.tmp 43), some (40, false)⟩, .l) <| .c (⟨some 45, .binOp .gtr 3 (.tmp 42) (.tmp 44) 3, some (40, false)⟩, .p) <| .c (⟨some 46, .pick (.tmp 40) (.const (.bool true)) (.tmp 45), none⟩, .p) <| .c (⟨some 47, .move (.tmp 46), none⟩, .p) <| .c (⟨some 48, .fieldAddr 108 (.tmp 4) 1, some (47, false)⟩, .p) <| .c (⟨some 49, .load 3 (.tmp 48), some (47, false)⟩, .l) <| .c (⟨some 50, .load 87 (.tmp 1), some (47, false)⟩, .l) <| .c (⟨some 51, .nilCheck (.tmp 50), some (47, false)⟩, .p) <| .c (⟨some 52, .fieldAddr 31 (.tmp 51) 0, some (47, false)⟩, .p) <| .c (⟨some 53, .load 3 (.tmp 52), some (47, false)⟩, .l) <| .c (⟨some 54, .move (.tmp 3), some (47, false)⟩, .p) <| .c (⟨some 55, .binOp .add 3 (.tmp 53) (.tmp 54) 3, some (47, false)⟩, .p) <| .c (⟨some 56, .binOp .geq 3 (.tmp 49) (.tmp 55) 3, some (47, false)⟩, .p) <| .c (⟨some 57, .pick (.tmp 47) (.const (.bool true)) (.tmp 56), none⟩, .p) <| .n) Q a) : LI Try.prog h0 L (.raw (.region id rg131_0 true)) Q a :=
  LI_draw (.c (0, .p) <| .c (1, .l) <| .c (2, .p) <| .c (3, .p) <| .c (4, .p) <| .c (5, .l) <| .c (6, .p) <| .c (7, .l) <| .c (8, .p) <| .c (9, .p) <| .c (10, .p) <| .c (11, .p) <| .c (12, .l) <| .c (13, .l) <| .c (14, .p) <| .c (15, .p) <| .c (16, .l) <| .c (17, .p) <| .c (18, .p) <| .c (19, .p) <| .c (20, .p) <| .n) [] (by kernel_rfl) (by kernel_rfl) (by kernel_rfl) H

/-- slices.IndexFunc[[][]int,[]int] -/
def c157 : IC :=
  (.seq
  (.reg [
    ⟨some 4, .assign (.const (.int .i64 0)), none⟩])
  (.seq
  (.seq
  (.reg [
    ⟨some 6, .move (.tmp 0), none⟩,
    ⟨some 7, .call { callee := .builtin .len, args := #[.tmp 6], argTypes := #[39] }, none⟩,
    ⟨some 8, .move (.const (.int .i64 0)), none⟩])
  (.block 0
  (.loop
    (.seq
    (.reg [
      ⟨some 9, .binOp .lss 3 (.tmp 8) (.tmp 7) 3, none⟩])
    (.seq
    (.cond (.tmp 9)
      .skip
      (.exit 0))
    (.seq
    (.block 1
    (.seq
    (.reg [
      ⟨some 10, .move (.tmp 8), none⟩,
      ⟨some 5, .assign (.tmp 10), none⟩])
    (.seq
    (.reg [
      ⟨some 11, .move (.tmp 1), none⟩,
      ⟨some 12, .move (.tmp 0), none⟩,
      ⟨some 13, .move (.tmp 5), none⟩,
      ⟨some 14, .indexAddr 39 (.tmp 12) (.tmp 13), none⟩,
      ⟨some 15, .load 29 (.tmp 14), none⟩,
      ⟨some 16, .call { callee := .value (.tmp 11), args := #[.tmp 15], argTypes := #[29] }, none⟩])
    (.cond (.tmp 16)
      (.seq
      (.reg [
        ⟨some 17, .move (.tmp 5), none⟩,
        ⟨some 4, .assign (.tmp 17), none⟩])
      .ret)
      .skip))))
    (.reg [
      ⟨some 18, .binOp .add 3 (.tmp 8) (.const (.int .i64 1)) 3, none⟩,
      ⟨some 8, .move (.tmp 18), none⟩])))))))
  (.seq
  (.reg [
    ⟨some 4, .assign (.const (.int .i64 (-1))), none⟩])
  .ret)))
theorem hd157 : Try.f157.body.map dec = some c157 := by kernel_rfl
theorem e157 {R : AV → AH → Prop} {h : AH} (x0 x1 : AV) (H : h.wf → AI Try.prog c157 (RetQ Try.prog [.tmp 4] R) [x0, x1, un, un, un, un, un, un, un, un, un, un, un, un, un, un, un, un, un] h) : AC Try.prog 157 [x0, x1] h R :=
  AC_of' (rs := [.tmp 4]) Try.func157 (by kernel_rfl) hd157 Try.ntmps157 rfl H

/-- slices.ContainsFunc[[][]int,[]int] -/
def c132 : IC :=
  (.seq
  (.reg [
    ⟨some 4, .assign (.const (.bool false)), none⟩])
  (.seq
  (.reg [
    ⟨some 5, .move (.tmp 0), none⟩,
    ⟨some 6, .move (.tmp 1), none⟩,
    ⟨some 7, .call { callee := .value (.func 157), args := #[.tmp 5, .tmp 6], argTypes := #[39, 54] }, none⟩,
    ⟨some 8, .binOp .geq 3 (.tmp 7) (.const (.int .i64 0)) 3, none⟩,
    ⟨some 4, .assign (.tmp 8), none⟩])
  .ret))
theorem hd132 : Try.f132.body.map dec = some c132 := by kernel_rfl
theorem e132 {R : AV → AH → Prop} {h : AH} (x0 x1 : AV) (H : h.wf → AI Try.prog c132 (RetQ Try.prog [.tmp 4] R) [x0, x1, un, un, un, un, un, un, un] h) : AC Try.prog 132 [x0, x1] h R :=
  AC_of' (rs := [.tmp 4]) Try.func132 (by kernel_rfl) hd132 Try.ntmps132 rfl H

/-- (*impl.Plan).exponents -/
def c133 : IC :=
  (.seq
  (.reg [
    ⟨some 2, .assign (.const (.slice none 0 0)), none⟩])
  (.seq
  (.reg [
    ⟨some 11, .buildSlice 39 0 #[], none⟩,
    ⟨some 3, .assign (.tmp 11), none⟩])
  (.seq
  (.seq
  (.reg [
    ⟨some 12, .move (.tmp 0), none⟩,
    ⟨some 13, .nilCheck (.tmp 12), none⟩,
    ⟨some 14, .fieldAddr 31 (.tmp 13) 0, none⟩,
    ⟨some 15, .load 3 (.tmp 14), none⟩,
    ⟨some 16, .move (.const (.int .i64 0)), none⟩])
  (.block 0
  (.loop
    (.seq
    (.reg [
      ⟨some 17, .binOp .lss 3 (.tmp 16) (.tmp 15) 3, none⟩])
    (.seq
    (.cond (.tmp 17)
      .skip
      (.exit 0))
    (.seq
    (.block 1
    (.seq
    (.reg [
      ⟨some 18, .move (.tmp 16), none⟩,
      ⟨some 4, .assign (.tmp 18), none⟩])
    (.seq
    (.reg [
      ⟨some 19, .move (.tmp 0), none⟩,
      ⟨some 20, .nilCheck (.tmp 19), none⟩,
      ⟨some 21, .fieldAddr 31 (.tmp 20) 0, none⟩,
      ⟨some 22, .load 3 (.tmp 21), none⟩,
      ⟨some 23, .makeSlice 29 (.tmp 22) (.tmp 22), none⟩,
      ⟨some 5, .assign (.tmp 23), none⟩])
    (.seq
    (.reg [
      ⟨some 24, .move (.tmp 5), none⟩,
      ⟨some 25, .move (.tmp 4), none⟩,
      ⟨some 26, .indexAddr 29 (.tmp 24) (.tmp 25), none⟩,
      ⟨none, .store 3 (.tmp 26) (.const (.int .i64 1)), none⟩])
    (.reg [
      ⟨some 27, .move (.tmp 3), none⟩,
      ⟨some 28, .move (.tmp 5), none⟩,
      ⟨some 29, .buildSlice 39 1 #[(0, .tmp 28)], none⟩,
      ⟨some 30, .call { callee := .builtin .append, args := #[.tmp 27, .tmp 29], argTypes := #[39, 39] }, none⟩,
      ⟨some 3, .assign (.tmp 30), none⟩])))))
    (.reg [
      ⟨some 31, .binOp .add 3 (.tmp 16) (.const (.int .i64 1)) 3, none⟩,
      ⟨some 16, .move (.tmp 31), none⟩])))))))
  (.seq
  (.seq
  (.reg [
    ⟨some 32, .move (.tmp 0), none⟩,
    ⟨some 33, .nilCheck (.tmp 32), none⟩,
    ⟨some 34, .fieldAddr 31 (.tmp 33) 1, none⟩,
    ⟨some 35, .load 28 (.tmp 34), none⟩,
    ⟨some 36, .call { callee := .builtin .len, args := #[.tmp 35], argTypes := #[28] }, none⟩,
    ⟨some 37, .move (.const (.int .i64 0)), none⟩])
  (.block 2
  (.loop
    (.seq
    (.reg [
      ⟨some 38, .binOp .lss 3 (.tmp 37) (.tmp 36) 3, none⟩])
    (.seq
    (.cond (.tmp 38)
      .skip
      (.exit 2))
    (.seq
    (.block 3
    (.seq
    (.reg [
      ⟨some 39, .indexAddr 28 (.tmp 35) (.tmp 37), none⟩,
      ⟨some 40, .load 108 (.tmp 39), none⟩,
      ⟨some 7, .alloc 108, none⟩,
      ⟨none, .store 108 (.tmp 7) (.tmp 40), none⟩])
    (.seq
    (.reg [
      ⟨some 41, .buildSlice 29 0 #[], none⟩,
      ⟨some 8, .assign (.tmp 41), none⟩])
    (.seq
    (.seq
    (.reg [
      ⟨some 42, .move (.tmp 3), none⟩,
      ⟨some 43, .fieldAddr 108 (.tmp 7) 0, none⟩,
      ⟨some 44, .load 3 (.tmp 43), none⟩,
      ⟨some 45, .indexAddr 39 (.tmp 42) (.tmp 44), none⟩,
      ⟨some 46, .load 29 (.tmp 45), none⟩,
      ⟨some 47, .call { callee := .builtin .len, args := #[.tmp 46], argTypes := #[29] }, none⟩,
      ⟨some 48, .move (.const (.int .i64 0)), none⟩])
    (.block 4
    (.loop
      (.seq
      (.reg [
        ⟨some 49, .binOp .lss 3 (.tmp 48) (.tmp 47) 3, none⟩])
      (.seq
      (.cond (.tmp 49)
        .skip
        (.exit 4))
      (.seq
      (.block 5
      (.seq
      (.reg [
        ⟨some 50, .move (.tmp 48), none⟩,
        ⟨some 51, .indexAddr 29 (.tmp 46) (.tmp 48), none⟩,
        ⟨some 52, .load 3 (.tmp 51), none⟩,
        ⟨some 9, .assign (.tmp 50), none⟩,
        ⟨some 10, .assign (.tmp 52), none⟩])
      (.reg [
        ⟨some 53, .move (.tmp 8), none⟩,
        ⟨some 54, .move (.tmp 10), none⟩,
        ⟨some 55, .move (.tmp 3), none⟩,
        ⟨some 56, .fieldAddr 108 (.tmp 7) 1, none⟩,
        ⟨some 57, .load 3 (.tmp 56), none⟩,
        ⟨some 58, .indexAddr 39 (.tmp 55) (.tmp 57), none⟩,
        ⟨some 59, .load 29 (.tmp 58), none⟩,
        ⟨some 60, .move (.tmp 9), none⟩,
        ⟨some 61, .indexAddr 29 (.tmp 59) (.tmp 60), none⟩,
        ⟨some 62, .load 3 (.tmp 61), none⟩,
        ⟨some 63, .binOp .add 3 (.tmp 54) (.tmp 62) 3, none⟩,
        ⟨some 64, .call { callee := .builtin .min, args := #[.tmp 63, .const (.int .i64 1000001)], argTypes := #[3, 3] }, none⟩,
        ⟨some 65, .buildSlice 29 1 #[(0, .tmp 64)], none⟩,
        ⟨some 66, .call { callee := .builtin .append, args := #[.tmp 53, .tmp 65], argTypes := #[29, 29] }, none⟩,
        ⟨some 8, .assign (.tmp 66), none⟩])))
      (.reg [
        ⟨some 67, .binOp .add 3 (.tmp 48) (.const (.int .i64 1)) 3, none⟩,
        ⟨some 48, .move (.tmp 67), none⟩])))))))
    (.reg [
      ⟨some 68, .move (.tmp 3), none⟩,
      ⟨some 69, .move (.tmp 8), none⟩,
      ⟨some 70, .buildSlice 39 1 #[(0, .tmp 69)], none⟩,
      ⟨some 71, .call { callee := .builtin .append, args := #[.tmp 68, .tmp 70], argTypes := #[39, 39] }, none⟩,
      ⟨some 3, .assign (.tmp 71), none⟩])))))
    (.reg [
      ⟨some 72, .binOp .add 3 (.tmp 37) (.const (.int .i64 1)) 3, none⟩,
      ⟨some 37, .move (.tmp 72), none⟩])))))))
  (.seq
  (.reg [
    ⟨some 73, .move (.tmp 3), none⟩,
    ⟨some 2, .assign (.tmp 73), none⟩])
  .ret)))))
theorem hd133 : Try.f133.body.map dec = some c133 := by kernel_rfl
theorem e133 {R : AV → AH → Prop} {h : AH} (x0 : AV) (H : h.wf → AI Try.prog c133 (RetQ Try.prog [.tmp 2] R) [x0, un, un, un, un, un, un, un, un, un, un, un, un, un, un, un, un, un, un, un, un, un, un, un, un, un, un, un, un, un, un, un, un, un, un, un, un, un, un, un, un, un, un, un, un, un, un, un, un, un, un, un, un, un, un, un, un, un, un, un, un, un, un, un, un, un, un, un, un, un, un, un, un, un] h) : AC Try.prog 133 [x0] h R :=
  AC_of' (rs := [.tmp 2]) Try.func133 (by kernel_rfl) hd133 Try.ntmps133 rfl H

/-- slices.Max[[]int,int] -/
def c107 : IC :=
  (.seq
  (.reg [
    ⟨some 2, .assign (.const (.int .i64 0)), none⟩])
  (.seq
  (.seq
  (.reg [
    ⟨some 5, .move (.tmp 0), none⟩,
    ⟨some 6, .call { callee := .builtin .len, args := #[.tmp 5], argTypes := #[29] }, none⟩,
    ⟨some 7, .binOp .lss 3 (.tmp 6) (.const (.int .i64 1)) 3, none⟩])
  (.cond (.tmp 7)
    (.reg [
      ⟨some 8, .makeInterface 9 (.const (.string { data := #[115, 108, 105, 99, 101, 115, 46, 77, 97, 120, 58, 32, 101, 109, 112, 116, 121, 32, 108, 105, 115, 116] })), none⟩,
      ⟨none, .panic (.tmp 8), none⟩])
    .skip))
  (.seq
  (.reg [
    ⟨some 9, .move (.tmp 0), none⟩,
    ⟨some 10, .indexAddr 29 (.tmp 9) (.const (.int .i64 0)), none⟩,
    ⟨some 11, .load 3 (.tmp 10), none⟩,
    ⟨some 3, .assign (.tmp 11), none⟩])
  (.seq
  (.seq
  (.reg [
    ⟨some 4, .assign (.const (.int .i64 1)), none⟩])
  (.block 0
  (.loop
    (.seq
    (.seq
    (.reg [
      ⟨some 12, .move (.tmp 4), none⟩,
      ⟨some 13, .move (.tmp 0), none⟩,
      ⟨some 14, .call { callee := .builtin .len, args := #[.tmp 13], argTypes := #[29] }, none⟩,
      ⟨some 15, .binOp .lss 3 (.tmp 12) (.tmp 14) 3, none⟩])
    (.cond (.tmp 15)
      .skip
      (.exit 0)))
    (.seq
    (.block 1
    (.reg [
      ⟨some 18, .move (.tmp 3), none⟩,
      ⟨some 19, .move (.tmp 0), none⟩,
      ⟨some 20, .move (.tmp 4), none⟩,
      ⟨some 21, .indexAddr 29 (.tmp 19) (.tmp 20), none⟩,
      ⟨some 22, .load 3 (.tmp 21), none⟩,
      ⟨some 23, .call { callee := .builtin .max, args := #[.tmp 18, .tmp 22], argTypes := #[3, 3] }, none⟩,
      ⟨some 3, .assign (.tmp 23), none⟩]))
    (.reg [
      ⟨some 16, .move (.tmp 4), none⟩,
      ⟨some 17, .binOp .add 3 (.tmp 16) (.const (.int .i64 1)) 3, none⟩,
      ⟨some 4, .assign (.tmp 17), none⟩]))))))
  (.seq
  (.reg [
    ⟨some 24, .move (.tmp 3), none⟩,
    ⟨some 2, .assign (.tmp 24), none⟩])
  .ret)))))
theorem hd107 : Try.f107.body.map dec = some c107 := by kernel_rfl
theorem e107 {R : AV → AH → Prop} {h : AH} (x0 : AV) (H : h.wf → AI Try.prog c107 (RetQ Try.prog [.tmp 2] R) [x0, un, un, un, un, un, un, un, un, un, un, un, un, un, un, un, un, un, un, un, un, un, un, un, un] h) : AC Try.prog 107 [x0] h R :=
  AC_of' (rs := [.tmp 2]) Try.func107 (by kernel_rfl) hd107 Try.ntmps107 rfl H

/-- impl.IsPlan$1 -/
def c134 : IC :=
  (.seq
  (.reg [
    ⟨some 2, .assign (.const (.bool false)), none⟩])
  (.seq
  (.reg [
    ⟨some 3, .move (.tmp 0), none⟩,
    ⟨some 4, .call { callee := .value (.func 107), args := #[.tmp 3], argTypes := #[29] }, none⟩,
    ⟨some 5, .binOp .gtr 3 (.tmp 4) (.const (.int .i64 1000000)) 3, none⟩,
    ⟨some 2, .assign (.tmp 5), none⟩])
  .ret))
theorem hd134 : Try.f134.body.map dec = some c134 := by kernel_rfl
theorem e134 {R : AV → AH → Prop} {h : AH} (x0 : AV) (H : h.wf → AI Try.prog c134 (RetQ Try.prog [.tmp 2] R) [x0, un, un, un, un, un] h) : AC Try.prog 134 [x0] h R :=
  AC_of' (rs := [.tmp 2]) Try.func134 (by kernel_rfl) hd134 Try.ntmps134 rfl H

/-- impl.IsPlan -/
def c81 : IC :=
  (.seq
  (.reg [
    ⟨some 1, .box 31 (.tmp 0), none⟩,
    ⟨some 2, .assign (.const (.bool false)), none⟩])
  (.seq
  (.reg [
    ⟨some 3, .call { callee := .value (.func 131), args := #[.tmp 1], argTypes := #[31] }, none⟩,
    ⟨some 4, .move (.tmp 3), none⟩,
    ⟨some 5, .call { callee := .value (.func 133), args := #[.tmp 1], argTypes := #[31] }, some (4, true)⟩,
    ⟨some 6, .call { callee := .value (.func 132), args := #[.tmp 5, .func 134], argTypes := #[39, 54] }, some (4, true)⟩,
    ⟨some 7, .unOp .not 4 (.tmp 6), some (4, true)⟩,
    ⟨some 8, .pick (.tmp 4) (.tmp 7) (.const (.bool false)), none⟩,
    ⟨some 2, .assign (.tmp 8), none⟩])
  .ret))
theorem hd81 : Try.f81.body.map dec = some c81 := by kernel_rfl
theorem e81 {R : AV → AH → Prop} {h : AH} (x0 : AV) (H : h.wf → AI Try.prog c81 (RetQ Try.prog [.tmp 2] R) [x0, un, un, un, un, un, un, un, un] h) : AC Try.prog 81 [x0] h R :=
  AC_of' (rs := [.tmp 2]) Try.func81 (by kernel_rfl) hd81 Try.ntmps81 rfl H

/-- impl.textOk -/
def c149 : IC :=
  (.seq
  (.reg [
    ⟨some 2, .assign (.const (.bool false)), none⟩])
  (.seq
  (.reg [
    ⟨some 3, .move (.tmp 0), none⟩,
    ⟨some 4, .call { callee := .value (.func 104), args := #[.tmp 3, .const (.int .i64 0), .const (.int .i64 2000)], argTypes := #[3, 3, 3] }, none⟩,
    ⟨some 2, .assign (.tmp 4), none⟩])
  .ret))
theorem hd149 : Try.f149.body.map dec = some c149 := by kernel_rfl
theorem e149 {R : AV → AH → Prop} {h : AH} (x0 : AV) (H : h.wf → AI Try.prog c149 (RetQ Try.prog [.tmp 2] R) [x0, un, un, un, un] h) : AC Try.prog 149 [x0] h R :=
  AC_of' (rs := [.tmp 2]) Try.func149 (by kernel_rfl) hd149 Try.ntmps149 rfl H

/-- impl.lengths$1 -/
def c148 : IC :=
  (.seq
  (.reg [
    ⟨some 2, .assign (.const (.bool false)), none⟩])
  (.seq
  (.reg [
    ⟨some 3, .move (.tmp 0), none⟩,
    ⟨some 4, .call { callee := .value (.func 149), args := #[.tmp 3], argTypes := #[3] }, none⟩,
    ⟨some 5, .unOp .not 4 (.tmp 4), none⟩,
    ⟨some 2, .assign (.tmp 5), none⟩])
  .ret))
theorem hd148 : Try.f148.body.map dec = some c148 := by kernel_rfl
theorem e148 {R : AV → AH → Prop} {h : AH} (x0 : AV) (H : h.wf → AI Try.prog c148 (RetQ Try.prog [.tmp 2] R) [x0, un, un, un, un, un] h) : AC Try.prog 148 [x0] h R :=
  AC_of' (rs := [.tmp 2]) Try.func148 (by kernel_rfl) hd148 Try.ntmps148 rfl H

/-- slices.Clone[[]int,int] -/
def c135 : IC :=
  (.seq
  (.reg [
    ⟨some 2, .assign (.const (.slice none 0 0)), none⟩])
  (.seq
  (.seq
  (.reg [
    ⟨some 3, .move (.tmp 0), none⟩,
    ⟨some 4, .binOp .eql 29 (.tmp 3) (.const (.slice none 0 0)) 29, none⟩])
  (.cond (.tmp 4)
    (.seq
    (.reg [
      ⟨some 2, .assign (.const (.slice none 0 0)), none⟩])
    .ret)
    .skip))
  (.seq
  (.reg [
    ⟨some 5, .buildSlice 29 0 #[], none⟩,
    ⟨some 6, .move (.tmp 0), none⟩,
    ⟨some 7, .call { callee := .builtin .append, args := #[.tmp 5, .tmp 6], argTypes := #[29, 29] }, none⟩,
    ⟨some 2, .assign (.tmp 7), none⟩])
  .ret)))
theorem hd135 : Try.f135.body.map dec = some c135 := by kernel_rfl
theorem e135 {R : AV → AH → Prop} {h : AH} (x0 : AV) (H : h.wf → AI Try.prog c135 (RetQ Try.prog [.tmp 2] R) [x0, un, un, un, un, un, un, un] h) : AC Try.prog 135 [x0] h R :=
  AC_of' (rs := [.tmp 2]) Try.func135 (by kernel_rfl) hd135 Try.ntmps135 rfl H

noncomputable def rg150_0 : Array Oper := rawAt Try.f150 0
/-- impl.run[int] -/
noncomputable def c150 : IC :=
  (.seq
  (.reg [
    ⟨some 6, .assign (.const (.slice none 0 0)), none⟩])
  (.seq
  (.reg [
    ⟨some 10, .move (.tmp 1), none⟩,
    ⟨some 11, .call { callee := .value (.func 135), args := #[.tmp 10], argTypes := #[29] }, none⟩,
    ⟨some 7, .assign (.tmp 11), none⟩])
  (.seq
  (.seq
  (.reg [
    ⟨some 12, .move (.tmp 0), none⟩,
    ⟨some 13, .nilCheck (.tmp 12), none⟩,
    ⟨some 14, .fieldAddr 31 (.tmp 13) 1, none⟩,
    ⟨some 15, .load 28 (.tmp 14), none⟩,
    ⟨some 16, .call { callee := .builtin .len, args := #[.tmp 15], argTypes := #[28] }, none⟩,
    ⟨some 17, .move (.const (.int .i64 0)), none⟩])
  (.block 0
  (.loop
    (.seq
    (.reg [
      ⟨some 18, .binOp .lss 3 (.tmp 17) (.tmp 16) 3, none⟩])
    (.seq
    (.cond (.tmp 18)
      .skip
      (.exit 0))
    (.seq
    (.block 1
    (.seq
    (.reg [
      ⟨some 19, .indexAddr 28 (.tmp 15) (.tmp 17), none⟩,
      ⟨some 20, .load 108 (.tmp 19), none⟩,
      ⟨some 9, .alloc 108, none⟩,
      ⟨none, .store 108 (.tmp 9) (.tmp 20), none⟩])
    (.raw (.region 5 rg150_0 true))))
    (.reg [
      ⟨some 36, .binOp .add 3 (.tmp 17) (.const (.int .i64 1)) 3, none⟩,
      ⟨some 17, .move (.tmp 36), none⟩])))))))
  (.seq
  (.reg [
    ⟨some 37, .move (.tmp 7), none⟩,
    ⟨some 6, .assign (.tmp 37), none⟩])
  .ret))))
theorem hd150 : Try.f150.body.map dec = some c150 := by kernel_rfl
theorem e150 {R : AV → AH → Prop} {h : AH} (x0 x1 x2 : AV) (H : h.wf → AI Try.prog c150 (RetQ Try.prog [.tmp 6] R) [x0, x1, x2, un, un, un, un, un, un, un, un, un, un, un, un, un, un, un, un, un, un, un, un, un, un, un, un, un, un, un, un, un, un, un, un, un, un, un] h) : AC Try.prog 150 [x0, x1, x2] h R :=
  AC_of' (rs := [.tmp 6]) Try.func150 (by kernel_rfl) hd150 Try.ntmps150 rfl H
theorem dz150_0 {h0 : AH} {L : List It} {Q : Exit → List AV → List It → Prop} {a : List AV} {id : Nat} (H : LX Try.prog ⟨[14], []⟩ h0 L L (.c (⟨some 21, .move (.tmp 7), none⟩, .p) <| .c (⟨some 22, .move (.tmp 2), none⟩, .p) <| .c (⟨some 23, .move (.tmp 7), none⟩, .p) <| .c (⟨some 24, .fieldAddr 108 (.tmp 9) 0, none⟩, .p) <| .c (⟨some 25, .load 3 (.tmp 24), none⟩, .l) <| .c (⟨some 26, .indexAddr 29 (.tmp 23) (.tmp 25), none⟩, .p) <| .c (⟨some 27, .load 3 (.tmp 26), none⟩, .l) <| .c (⟨some 28, .move (.tmp 7), none⟩, .p) <| .c (⟨some 29, .fieldAddr 108 (.tmp 9) 1, none⟩, .p) <| .c (⟨some 30, .load 3 (.tmp 29), none⟩, .l) <| .c (⟨some 31, .indexAddr 29 (.tmp 28) (.tmp 30), none⟩, .p) <| .c (⟨some 32, .load 3 (.tmp 31), none⟩, .l) <| .c (⟨some 33, .call { callee := .value (.tmp 22), args := #[.tmp 27, .tmp 32], argTypes := #[3, 3] }, none⟩, .e) <| .c (⟨some 34, .buildSlice 29 1 #[(0, .tmp 33)], none⟩, .e) <| .c (⟨some 35, .call { callee := .builtin .append, args := #[.tmp 21, .tmp 34], argTypes := #[29, 29] }, none⟩, .f) <| .c (⟨some 7, .assign (.tmp 35), none⟩, .p) <| .n) Q a) : LI Try.prog h0 L (.raw (.region id rg150_0 true)) Q a :=
  LI_draw (.c (0, .p) <| .c (1, .p) <| .c (2, .p) <| .c (3, .p) <| .c (4, .l) <| .c (5, .p) <| .c (6, .l) <| .c (7, .p) <| .c (8, .p) <| .c (9, .l) <| .c (10, .p) <| .c (11, .l) <| .c (12, .e) <| .c (13, .e) <| .c (14, .f) <| .c (15, .p) <| .n) [14] (by kernel_rfl) (by kernel_rfl) (by kernel_rfl) H
theorem dy150_0 {h0 : AH} {L : List It} {Q : Exit → List AV → List It → Prop} {a : List AV} {id : Nat} (H : LX Try.prog ⟨[12, 13, 14], []⟩ h0 L L (.c (⟨some 21, .move (.tmp 7), none⟩, .p) <| .c (⟨some 22, .move (.tmp 2), none⟩, .p) <| .c (⟨some 23, .move (.tmp 7), none⟩, .p) <| .c (⟨some 24, .fieldAddr 108 (.tmp 9) 0, none⟩, .p) <| .c (⟨some 25, .load 3 (.tmp 24), none⟩, .l) <| .c (⟨some 26, .indexAddr 29 (.tmp 23) (.tmp 25), none⟩, .p) <| .c (⟨some 27, .load 3 (.tmp 26), none⟩, .l) <| .c (⟨some 28, .move (.tmp 7), none⟩, .p) <| .c (⟨some 29, .fieldAddr 108 (.tmp 9) 1, none⟩, .p) <| .c (⟨some 30, .load 3 (.tmp 29), none⟩, .l) <| .c (⟨some 31, .indexAddr 29 (.tmp 28) (.tmp 30), none⟩, .p) <| .c (⟨some 32, .load 3 (.tmp 31), none⟩, .l) <| .c (⟨some 33, .call { callee := .value (.tmp 22), args := #[.tmp 27, .tmp 32], argTypes := #[3, 3] }, none⟩, .f) <| .c (⟨some 34, .buildSlice 29 1 #[(0, .tmp 33)], none⟩, .f) <| .c (⟨some 35, .call { callee := .builtin .append, args := #[.tmp 21, .tmp 34], argTypes := #[29, 29] }, none⟩, .f) <| .c (⟨some 7, .assign (.tmp 35), none⟩, .p) <| .n) Q a) : LI Try.prog h0 L (.raw (.region id rg150_0 true)) Q a :=
  LI_draw (.c (0, .p) <| .c (1, .p) <| .c (2, .p) <| .c (3, .p) <| .c (4, .l) <| .c (5, .p) <| .c (6, .l) <| .c (7, .p) <| .c (8, .p) <| .c (9, .l) <| .c (10, .p) <| .c (11, .l) <| .c (12, .f) <| .c (13, .f) <| .c (14, .f) <| .c (15, .p) <| .n) [12, 13, 14] (by kernel_rfl) (by kernel_rfl) (by kernel_rfl) H
theorem dr150_0 (m : Nat) {Q : Exit → List AV → AH → Prop} {a : List AV} {h : AH} {id : Nat} (H : AX Try.prog m h [(⟨some 21, .move (.tmp 7), none⟩, true),
  (⟨some 22, .move (.tmp 2), none⟩, true),
  (⟨some 23, .move (.tmp 7), none⟩, true),
  (⟨some 24, .fieldAddr 108 (.tmp 9) 0, none⟩, true),
  (⟨some 25, .load 3 (.tmp 24), none⟩, true),
  (⟨some 26, .indexAddr 29 (.tmp 23) (.tmp 25), none⟩, true),
  (⟨some 27, .load 3 (.tmp 26), none⟩, true),
  (⟨some 28, .move (.tmp 7), none⟩, true),
  (⟨some 29, .fieldAddr 108 (.tmp 9) 1, none⟩, true),
  (⟨some 30, .load 3 (.tmp 29), none⟩, true),
  (⟨some 31, .indexAddr 29 (.tmp 28) (.tmp 30), none⟩, true),
  (⟨some 32, .load 3 (.tmp 31), none⟩, true),
  (⟨some 33, .call { callee := .value (.tmp 22), args := #[.tmp 27, .tmp 32], argTypes := #[3, 3] }, none⟩, false),
  (⟨some 34, .buildSlice 29 1 #[(0, .tmp 33)], none⟩, false),
  (⟨some 35, .call { callee := .builtin .append, args := #[.tmp 21, .tmp 34], argTypes := #[29, 29] }, none⟩, false),
  (⟨some 7, .assign (.tmp 35), none⟩, true)] (fun a' h' => Q .normal a' h') a h) : AI Try.prog (.raw (.region id rg150_0 true)) Q a h :=
  AI_draw [(0, true), (1, true), (2, true), (3, true), (4, true), (5, true), (6, true), (7, true), (8, true), (9, true), (10, true), (11, true), (12, false), (13, false), (14, false), (15, true)] m (by kernel_rfl) (by kernel_rfl) (by kernel_rfl) H

/-- impl.lengths$2 -/
def c151 : IC :=
  (.seq
  (.reg [
    ⟨some 4, .assign (.const (.int .i64 0)), none⟩])
  (.seq
  (.reg [
    ⟨some 5, .move (.tmp 0), none⟩,
    ⟨some 6, .move (.tmp 1), none⟩,
    ⟨some 7, .binOp .add 3 (.tmp 5) (.tmp 6) 3, none⟩,
    ⟨some 8, .call { callee := .builtin .min, args := #[.tmp 7, .const (.int .i64 2001)], argTypes := #[3, 3] }, none⟩,
    ⟨some 4, .assign (.tmp 8), none⟩])
  .ret))
theorem hd151 : Try.f151.body.map dec = some c151 := by kernel_rfl
theorem e151 {R : AV → AH → Prop} {h : AH} (x0 x1 : AV) (H : h.wf → AI Try.prog c151 (RetQ Try.prog [.tmp 4] R) [x0, x1, un, un, un, un, un, un, un] h) : AC Try.prog 151 [x0, x1] h R :=
  AC_of' (rs := [.tmp 4]) Try.func151 (by kernel_rfl) hd151 Try.ntmps151 rfl H

/-- impl.lengths -/
def c118 : IC :=
  (.seq
  (.reg [
    ⟨some 4, .assign (.const (.slice none 0 0)), none⟩,
    ⟨some 5, .assign (.const (.bool false)), none⟩])
  (.seq
  (.seq
  (.reg [
    ⟨some 7, .move (.tmp 0), none⟩,
    ⟨some 8, .nilCheck (.tmp 7), none⟩,
    ⟨some 9, .load 31 (.tmp 8), none⟩,
    ⟨some 10, .call { callee := .value (.func 81), args := #[.tmp 9], argTypes := #[31] }, none⟩,
    ⟨some 11, .unOp .not 4 (.tmp 10), none⟩,
    ⟨some 12, .move (.tmp 11), none⟩,
    ⟨some 13, .move (.tmp 1), some (12, false)⟩,
    ⟨some 14, .call { callee := .builtin .len, args := #[.tmp 13], argTypes := #[29] }, some (12, false)⟩,
    ⟨some 15, .move (.tmp 0), some (12, false)⟩,
    ⟨some 16, .nilCheck (.tmp 15), some (12, false)⟩,
    ⟨some 17, .fieldAddr 31 (.tmp 16) 0, some (12, false)⟩,
    ⟨some 18, .load 3 (.tmp 17), some (12, false)⟩,
    ⟨some 19, .binOp .neq 3 (.tmp 14) (.tmp 18) 3, some (12, false)⟩,
    ⟨some 20, .pick (.tmp 12) (.const (.bool true)) (.tmp 19), none⟩,
    ⟨some 21, .move (.tmp 20), none⟩,
    ⟨some 22, .move (.tmp 1), some (21, false)⟩,
    ⟨some 23, .call { callee := .value (.func 105), args := #[.tmp 22, .func 148], argTypes := #[29, 24] }, some (21, false)⟩,
    ⟨some 24, .pick (.tmp 21) (.const (.bool true)) (.tmp 23), none⟩])
  (.cond (.tmp 24)
    (.seq
    (.reg [
      ⟨some 4, .assign (.const (.slice none 0 0)), none⟩,
      ⟨some 5, .assign (.const (.bool false)), none⟩])
    .ret)
    .skip))
  (.seq
  (.reg [
    ⟨some 25, .move (.tmp 0), none⟩,
    ⟨some 26, .move (.tmp 1), none⟩,
    ⟨some 27, .call { callee := .value (.func 150), args := #[.tmp 25, .tmp 26, .func 151], argTypes := #[87, 29, 78] }, none⟩,
    ⟨some 6, .assign (.tmp 27), none⟩])
  (.seq
  (.reg [
    ⟨some 28, .move (.tmp 6), none⟩,
    ⟨some 29, .move (.tmp 6), none⟩,
    ⟨some 30, .call { callee := .value (.func 107), args := #[.tmp 29], argTypes := #[29] }, none⟩,
    ⟨some 31, .binOp .leq 3 (.tmp 30) (.const (.int .i64 2000)) 3, none⟩,
    ⟨some 4, .assign (.tmp 28), none⟩,
    ⟨some 5, .assign (.tmp 31), none⟩])
  .ret))))
theorem hd118 : Try.f118.body.map dec = some c118 := by kernel_rfl
theorem e118 {R : AV → AH → Prop} {h : AH} (x0 x1 : AV) (H : h.wf → AI Try.prog c118 (RetQ Try.prog [.tmp 4, .tmp 5] R) [x0, x1, un, un, un, un, un, un, un, un, un, un, un, un, un, un, un, un, un, un, un, un, un, un, un, un, un, un, un, un, un, un] h) : AC Try.prog 118 [x0, x1] h R :=
  AC_of' (rs := [.tmp 4, .tmp 5]) Try.func118 (by kernel_rfl) hd118 Try.ntmps118 rfl H

/-- impl.outputsOf[string] -/
def c119 : IC :=
  (.seq
  (.reg [
    ⟨some 4, .assign (.const (.slice none 0 0)), none⟩])
  (.seq
  (.reg [
    ⟨some 8, .buildSlice 58 0 #[], none⟩,
    ⟨some 5, .assign (.tmp 8), none⟩])
  (.seq
  (.seq
  (.reg [
    ⟨some 9, .move (.tmp 0), none⟩,
    ⟨some 10, .nilCheck (.tmp 9), none⟩,
    ⟨some 11, .fieldAddr 31 (.tmp 10) 2, none⟩,
    ⟨some 12, .load 29 (.tmp 11), none⟩,
    ⟨some 13, .call { callee := .builtin .len, args := #[.tmp 12], argTypes := #[29] }, none⟩,
    ⟨some 14, .move (.const (.int .i64 0)), none⟩])
  (.block 0
  (.loop
    (.seq
    (.reg [
      ⟨some 15, .binOp .lss 3 (.tmp 14) (.tmp 13) 3, none⟩])
    (.seq
    (.cond (.tmp 15)
      .skip
      (.exit 0))
    (.seq
    (.block 1
    (.seq
    (.reg [
      ⟨some 16, .indexAddr 29 (.tmp 12) (.tmp 14), none⟩,
      ⟨some 17, .load 3 (.tmp 16), none⟩,
      ⟨some 7, .assign (.tmp 17), none⟩])
    (.reg [
      ⟨some 18, .move (.tmp 5), none⟩,
      ⟨some 19, .move (.tmp 1), none⟩,
      ⟨some 20, .move (.tmp 7), none⟩,
      ⟨some 21, .indexAddr 58 (.tmp 19) (.tmp 20), none⟩,
      ⟨some 22, .load 9 (.tmp 21), none⟩,
      ⟨some 23, .buildSlice 58 1 #[(0, .tmp 22)], none⟩,
      ⟨some 24, .call { callee := .builtin .append, args := #[.tmp 18, .tmp 23], argTypes := #[58, 58] }, none⟩,
      ⟨some 5, .assign (.tmp 24), none⟩])))
    (.reg [
      ⟨some 25, .binOp .add 3 (.tmp 14) (.const (.int .i64 1)) 3, none⟩,
      ⟨some 14, .move (.tmp 25), none⟩])))))))
  (.seq
  (.reg [
    ⟨some 26, .move (.tmp 5), none⟩,
    ⟨some 4, .assign (.tmp 26), none⟩])
  .ret))))
theorem hd119 : Try.f119.body.map dec = some c119 := by kernel_rfl
theorem e119 {R : AV → AH → Prop} {h : AH} (x0 x1 : AV) (H : h.wf → AI Try.prog c119 (RetQ Try.prog [.tmp 4] R) [x0, x1, un, un, un, un, un, un, un, un, un, un, un, un, un, un, un, un, un, un, un, un, un, un, un, un, un] h) : AC Try.prog 119 [x0, x1] h R :=
  AC_of' (rs := [.tmp 4]) Try.func119 (by kernel_rfl) hd119 Try.ntmps119 rfl H

/-- slices.Clone[[]string,string] -/
def c152 : IC :=
  (.seq
  (.reg [
    ⟨some 2, .assign (.const (.slice none 0 0)), none⟩])
  (.seq
  (.seq
  (.reg [
    ⟨some 3, .move (.tmp 0), none⟩,
    ⟨some 4, .binOp .eql 58 (.tmp 3) (.const (.slice none 0 0)) 58, none⟩])
  (.cond (.tmp 4)
    (.seq
    (.reg [
      ⟨some 2, .assign (.const (.slice none 0 0)), none⟩])
    .ret)
    .skip))
  (.seq
  (.reg [
    ⟨some 5, .buildSlice 58 0 #[], none⟩,
    ⟨some 6, .move (.tmp 0), none⟩,
    ⟨some 7, .call { callee := .builtin .append, args := #[.tmp 5, .tmp 6], argTypes := #[58, 58] }, none⟩,
    ⟨some 2, .assign (.tmp 7), none⟩])
  .ret)))
theorem hd152 : Try.f152.body.map dec = some c152 := by kernel_rfl
theorem e152 {R : AV → AH → Prop} {h : AH} (x0 : AV) (H : h.wf → AI Try.prog c152 (RetQ Try.prog [.tmp 2] R) [x0, un, un, un, un, un, un, un] h) : AC Try.prog 152 [x0] h R :=
  AC_of' (rs := [.tmp 2]) Try.func152 (by kernel_rfl) hd152 Try.ntmps152 rfl H

noncomputable def rg120_0 : Array Oper := rawAt Try.f120 0
/-- impl.run[string] -/
noncomputable def c120 : IC :=
  (.seq
  (.reg [
    ⟨some 6, .assign (.const (.slice none 0 0)), none⟩])
  (.seq
  (.reg [
    ⟨some 10, .move (.tmp 1), none⟩,
    ⟨some 11, .call { callee := .value (.func 152), args := #[.tmp 10], argTypes := #[58] }, none⟩,
    ⟨some 7, .assign (.tmp 11), none⟩])
  (.seq
  (.seq
  (.reg [
    ⟨some 12, .move (.tmp 0), none⟩,
    ⟨some 13, .nilCheck (.tmp 12), none⟩,
    ⟨some 14, .fieldAddr 31 (.tmp 13) 1, none⟩,
    ⟨some 15, .load 28 (.tmp 14), none⟩,
    ⟨some 16, .call { callee := .builtin .len, args := #[.tmp 15], argTypes := #[28] }, none⟩,
    ⟨some 17, .move (.const (.int .i64 0)), none⟩])
  (.block 0
  (.loop
    (.seq
    (.reg [
      ⟨some 18, .binOp .lss 3 (.tmp 17) (.tmp 16) 3, none⟩])
    (.seq
    (.cond (.tmp 18)
      .skip
      (.exit 0))
    (.seq
    (.block 1
    (.seq
    (.reg [
      ⟨some 19, .indexAddr 28 (.tmp 15) (.tmp 17), none⟩,
      ⟨some 20, .load 108 (.tmp 19), none⟩,
      ⟨some 9, .alloc 108, none⟩,
      ⟨none, .store 108 (.tmp 9) (.tmp 20), none⟩])
    (.raw (.region 5 rg120_0 true))))
    (.reg [
      ⟨some 36, .binOp .add 3 (.tmp 17) (.const (.int .i64 1)) 3, none⟩,
      ⟨some 17, .move (.tmp 36), none⟩])))))))
  (.seq
  (.reg [
    ⟨some 37, .move (.tmp 7), none⟩,
    ⟨some 6, .assign (.tmp 37), none⟩])
  .ret))))
theorem hd120 : Try.f120.body.map dec = some c120 := by kernel_rfl
theorem e120 {R : AV → AH → Prop} {h : AH} (x0 x1 x2 : AV) (H : h.wf → AI Try.prog c120 (RetQ Try.prog [.tmp 6] R) [x0, x1, x2, un, un, un, un, un, un, un, un, un, un, un, un, un, un, un, un, un, un, un, un, un, un, un, un, un, un, un, un, un, un, un, un, un, un, un] h) : AC Try.prog 120 [x0, x1, x2] h R :=
  AC_of' (rs := [.tmp 6]) Try.func120 (by kernel_rfl) hd120 Try.ntmps120 rfl H
theorem dz120_0 {h0 : AH} {L : List It} {Q : Exit → List AV → List It → Prop} {a : List AV} {id : Nat} (H : LX Try.prog ⟨[14], []⟩ h0 L L (.c (⟨some 21, .move (.tmp 7), none⟩, .p) <| .c (⟨some 22, .move (.tmp 2), none⟩, .p) <| .c (⟨some 23, .move (.tmp 7), none⟩, .p) <| .c (⟨some 24, .fieldAddr 108 (.tmp 9) 0, none⟩, .p) <| .c (⟨some 25, .load 3 (.tmp 24), none⟩, .l) <| .c (⟨some 26, .indexAddr 58 (.tmp 23) (.tmp 25), none⟩, .p) <| .c (⟨some 27, .load 9 (.tmp 26), none⟩, .l) <| .c (⟨some 28, .move (.tmp 7), none⟩, .p) <| .c (⟨some 29, .fieldAddr 108 (.tmp 9) 1, none⟩, .p) <| .c (⟨some 30, .load 3 (.tmp 29), none⟩, .l) <| .c (⟨some 31, .indexAddr 58 (.tmp 28) (.tmp 30), none⟩, .p) <| .c (⟨some 32, .load 9 (.tmp 31), none⟩, .l) <| .c (⟨some 33, .call { callee := .value (.tmp 22), args := #[.tmp 27, .tmp 32], argTypes := #[9, 9] }, none⟩, .e) <| .c (⟨some 34, .buildSlice 58 1 #[(0, .tmp 33)], none⟩, .e) <| .c (⟨some 35, .call { callee := .builtin .append, args := #[.tmp 21, .tmp 34], argTypes := #[58, 58] }, none⟩, .f) <| .c (⟨some 7, .assign (.tmp 35), none⟩, .p) <| .n) Q a) : LI Try.prog h0 L (.raw (.region id rg120_0 true)) Q a :=
  LI_draw (.c (0, .p) <| .c (1, .p) <| .c (2, .p) <| .c (3, .p) <| .c (4, .l) <| .c (5, .p) <| .c (6, .l) <| .c (7, .p) <| .c (8, .p) <| .c (9, .l) <| .c (10, .p) <| .c (11, .l) <| .c (12, .e) <| .c (13, .e) <| .c (14, .f) <| .c (15, .p) <| .n) [14] (by kernel_rfl) (by kernel_rfl) (by kernel_rfl) H
theorem dy120_0 {h0 : AH} {L : List It} {Q : Exit → List AV → List It → Prop} {a : List AV} {id : Nat} (H : LX Try.prog ⟨[12, 13, 14], []⟩ h0 L L (.c (⟨some 21, .move (.tmp 7), none⟩, .p) <| .c (⟨some 22, .move (.tmp 2), none⟩, .p) <| .c (⟨some 23, .move (.tmp 7), none⟩, .p) <| .c (⟨some 24, .fieldAddr 108 (.tmp 9) 0, none⟩, .p) <| .c (⟨some 25, .load 3 (.tmp 24), none⟩, .l) <| .c (⟨some 26, .indexAddr 58 (.tmp 23) (.tmp 25), none⟩, .p) <| .c (⟨some 27, .load 9 (.tmp 26), none⟩, .l) <| .c (⟨some 28, .move (.tmp 7), none⟩, .p) <| .c (⟨some 29, .fieldAddr 108 (.tmp 9) 1, none⟩, .p) <| .c (⟨some 30, .load 3 (.tmp 29), none⟩, .l) <| .c (⟨some 31, .indexAddr 58 (.tmp 28) (.tmp 30), none⟩, .p) <| .c (⟨some 32, .load 9 (.tmp 31), none⟩, .l) <| .c (⟨some 33, .call { callee := .value (.tmp 22), args := #[.tmp 27, .tmp 32], argTypes := #[9, 9] }, none⟩, .f) <| .c (⟨some 34, .buildSlice 58 1 #[(0, .tmp 33)], none⟩, .f) <| .c (⟨some 35, .call { callee := .builtin .append, args := #[.tmp 21, .tmp 34], argTypes := #[58, 58] }, none⟩, .f) <| .c (⟨some 7, .assign (.tmp 35), none⟩, .p) <| .n) Q a) : LI Try.prog h0 L (.raw (.region id rg120_0 true)) Q a :=
  LI_draw (.c (0, .p) <| .c (1, .p) <| .c (2, .p) <| .c (3, .p) <| .c (4, .l) <| .c (5, .p) <| .c (6, .l) <| .c (7, .p) <| .c (8, .p) <| .c (9, .l) <| .c (10, .p) <| .c (11, .l) <| .c (12, .f) <| .c (13, .f) <| .c (14, .f) <| .c (15, .p) <| .n) [12, 13, 14] (by kernel_rfl) (by kernel_rfl) (by kernel_rfl) H
theorem dr120_0 (m : Nat) {Q : Exit → List AV → AH → Prop} {a : List AV} {h : AH} {id : Nat} (H : AX Try.prog m h [(⟨some 21, .move (.tmp 7), none⟩, true),
  (⟨some 22, .move (.tmp 2), none⟩, true),
  (⟨some 23, .move (.tmp 7), none⟩, true),
  (⟨some 24, .fieldAddr 108 (.tmp 9) 0, none⟩, true),
  (⟨some 25, .load 3 (.tmp 24), none⟩, true),
  (⟨some 26, .indexAddr 58 (.tmp 23) (.tmp 25), none⟩, true),
  (⟨some 27, .load 9 (.tmp 26), none⟩, true),
  (⟨some 28, .move (.tmp 7), none⟩, true),
  (⟨some 29, .fieldAddr 108 (.tmp 9) 1, none⟩, true),
  (⟨some 30, .load 3 (.tmp 29), none⟩, true),
  (⟨some 31, .indexAddr 58 (.tmp 28) (.tmp 30), none⟩, true),
  (⟨some 32, .load 9 (.tmp 31), none⟩, true),
  (⟨some 33, .call { callee := .value (.tmp 22), args := #[.tmp 27, .tmp 32], argTypes := #[9, 9] }, none⟩, false),
  (⟨some 34, .buildSlice 58 1 #[(0, .tmp 33)], none⟩, false),
  (⟨some 35, .call { callee := .builtin .append, args := #[.tmp 21, .tmp 34], argTypes := #[58, 58] }, none⟩, false),
  (⟨some 7, .assign (.tmp 35), none⟩, true)] (fun a' h' => Q .normal a' h') a h) : AI Try.prog (.raw (.region id rg120_0 true)) Q a h :=
  AI_draw [(0, true), (1, true), (2, true), (3, true), (4, true), (5, true), (6, true), (7, true), (8, true), (9, true), (10, true), (11, true), (12, false), (13, false), (14, false), (15, true)] m (by kernel_rfl) (by kernel_rfl) (by kernel_rfl) H

/-- strings.Join -/
def c122 : IC :=
  (.seq
  (.reg [
    ⟨some 4, .assign (.const (.string { data := #[] })), none⟩])
  (.seq
  (.seq
  (.reg [
    ⟨some 11, .move (.tmp 0), none⟩,
    ⟨some 12, .call { callee := .builtin .len, args := #[.tmp 11], argTypes := #[58] }, none⟩])
  (.block 0
  (.seq
  (.reg [
    ⟨some 14, .binOp .eql 3 (.tmp 12) (.const (.int .i64 0)) 3, none⟩,
    ⟨some 13, .assign (.tmp 14), none⟩])
  (.cond (.tmp 13)
    (.seq
    (.reg [
      ⟨some 4, .assign (.const (.string { data := #[] })), none⟩])
    .ret)
    (.seq
    (.reg [
      ⟨some 16, .binOp .eql 3 (.tmp 12) (.const (.int .i64 1)) 3, none⟩,
      ⟨some 15, .assign (.tmp 16), none⟩])
    (.cond (.tmp 15)
      (.seq
      (.reg [
        ⟨some 17, .move (.tmp 0), none⟩,
        ⟨some 18, .indexAddr 58 (.tmp 17) (.const (.int .i64 0)), none⟩,
        ⟨some 19, .load 9 (.tmp 18), none⟩,
        ⟨some 4, .assign (.tmp 19), none⟩])
      .ret)
      .skip))))))
  (.seq
  (.reg [
    ⟨some 5, .assign (.const (.int .i64 0)), none⟩])
  (.seq
  (.seq
  (.reg [
    ⟨some 20, .move (.tmp 1), none⟩,
    ⟨some 21, .call { callee := .builtin .len, args := #[.tmp 20], argTypes := #[9] }, none⟩,
    ⟨some 22, .binOp .gtr 3 (.tmp 21) (.const (.int .i64 0)) 3, none⟩])
  (.cond (.tmp 22)
    (.seq
    (.seq
    (.reg [
      ⟨some 23, .move (.tmp 1), none⟩,
      ⟨some 24, .call { callee := .builtin .len, args := #[.tmp 23], argTypes := #[9] }, none⟩,
      ⟨some 25, .move (.tmp 0), none⟩,
      ⟨some 26, .call { callee := .builtin .len, args := #[.tmp 25], argTypes := #[58] }, none⟩,
      ⟨some 27, .binOp .sub 3 (.tmp 26) (.const (.int .i64 1)) 3, none⟩,
      ⟨some 28, .binOp .quo 3 (.const (.int .i64 9223372036854775807)) (.tmp 27) 3, none⟩,
      ⟨some 29, .binOp .geq 3 (.tmp 24) (.tmp 28) 3, none⟩])
    (.cond (.tmp 29)
      (.reg [
        ⟨some 30, .makeInterface 9 (.const (.string { data := #[115, 116, 114, 105, 110, 103, 115, 58, 32, 74, 111, 105, 110, 32, 111, 117, 116, 112, 117, 116, 32, 108, 101, 110, 103, 116, 104, 32, 111, 118, 101, 114, 102, 108, 111, 119] })), none⟩,
        ⟨none, .panic (.tmp 30), none⟩])
      .skip))
    (.reg [
      ⟨some 31, .move (.tmp 5), none⟩,
      ⟨some 32, .move (.tmp 1), none⟩,
      ⟨some 33, .call { callee := .builtin .len, args := #[.tmp 32], argTypes := #[9] }, none⟩,
      ⟨some 34, .move (.tmp 0), none⟩,
      ⟨some 35, .call { callee := .builtin .len, args := #[.tmp 34], argTypes := #[58] }, none⟩,
      ⟨some 36, .binOp .sub 3 (.tmp 35) (.const (.int .i64 1)) 3, none⟩,
      ⟨some 37, .binOp .mul 3 (.tmp 33) (.tmp 36) 3, none⟩,
      ⟨some 38, .binOp .add 3 (.tmp 31) (.tmp 37) 3, none⟩,
      ⟨some 5, .assign (.tmp 38), none⟩]))
    .skip))
  (.seq
  (.seq
  (.reg [
    ⟨some 39, .move (.tmp 0), none⟩,
    ⟨some 40, .call { callee := .builtin .len, args := #[.tmp 39], argTypes := #[58] }, none⟩,
    ⟨some 41, .move (.const (.int .i64 0)), none⟩])
  (.block 1
  (.loop
    (.seq
    (.reg [
      ⟨some 42, .binOp .lss 3 (.tmp 41) (.tmp 40) 3, none⟩])
    (.seq
    (.cond (.tmp 42)
      .skip
      (.exit 1))
    (.seq
    (.block 2
    (.seq
    (.reg [
      ⟨some 43, .indexAddr 58 (.tmp 39) (.tmp 41), none⟩,
      ⟨some 44, .load 9 (.tmp 43), none⟩,
      ⟨some 7, .assign (.tmp 44), none⟩])
    (.seq
    (.seq
    (.reg [
      ⟨some 45, .move (.tmp 7), none⟩,
      ⟨some 46, .call { callee := .builtin .len, args := #[.tmp 45], argTypes := #[9] }, none⟩,
      ⟨some 47, .move (.tmp 5), none⟩,
      ⟨some 48, .binOp .sub 3 (.const (.int .i64 9223372036854775807)) (.tmp 47) 3, none⟩,
      ⟨some 49, .binOp .gtr 3 (.tmp 46) (.tmp 48) 3, none⟩])
    (.cond (.tmp 49)
      (.reg [
        ⟨some 50, .makeInterface 9 (.const (.string { data := #[115, 116, 114, 105, 110, 103, 115, 58, 32, 74, 111, 105, 110, 32, 111, 117, 116, 112, 117, 116, 32, 108, 101, 110, 103, 116, 104, 32, 111, 118, 101, 114, 102, 108, 111, 119] })), none⟩,
        ⟨none, .panic (.tmp 50), none⟩])
      .skip))
    (.reg [
      ⟨some 51, .move (.tmp 5), none⟩,
      ⟨some 52, .move (.tmp 7), none⟩,
      ⟨some 53, .call { callee := .builtin .len, args := #[.tmp 52], argTypes := #[9] }, none⟩,
      ⟨some 54, .binOp .add 3 (.tmp 51) (.tmp 53) 3, none⟩,
      ⟨some 5, .assign (.tmp 54), none⟩]))))
    (.reg [
      ⟨some 55, .binOp .add 3 (.tmp 41) (.const (.int .i64 1)) 3, none⟩,
      ⟨some 41, .move (.tmp 55), none⟩])))))))
  (.seq
  (.reg [
    ⟨some 8, .alloc 139, none⟩])
  (.seq
  (.reg [
    ⟨some 56, .move (.tmp 5), none⟩,
    ⟨some 57, .call { callee := .value (.func 153), args := #[.tmp 8, .tmp 56], argTypes := #[139, 3] }, none⟩])
  (.seq
  (.reg [
    ⟨some 58, .move (.tmp 0), none⟩,
    ⟨some 59, .indexAddr 58 (.tmp 58) (.const (.int .i64 0)), none⟩,
    ⟨some 60, .load 9 (.tmp 59), none⟩,
    ⟨some 61, .call { callee := .value (.func 154), args := #[.tmp 8, .tmp 60], argTypes := #[139, 9] }, none⟩])
  (.seq
  (.seq
  (.reg [
    ⟨some 62, .move (.tmp 0), none⟩,
    ⟨some 63, .slice 58 (.tmp 62) (some (.const (.int .i64 1))) none none, none⟩,
    ⟨some 64, .call { callee := .builtin .len, args := #[.tmp 63], argTypes := #[58] }, none⟩,
    ⟨some 65, .move (.const (.int .i64 0)), none⟩])
  (.block 3
  (.loop
    (.seq
    (.reg [
      ⟨some 66, .binOp .lss 3 (.tmp 65) (.tmp 64) 3, none⟩])
    (.seq
    (.cond (.tmp 66)
      .skip
      (.exit 3))
    (.seq
    (.block 4
    (.seq
    (.reg [
      ⟨some 67, .indexAddr 58 (.tmp 63) (.tmp 65), none⟩,
      ⟨some 68, .load 9 (.tmp 67), none⟩,
      ⟨some 10, .assign (.tmp 68), none⟩])
    (.seq
    (.reg [
      ⟨some 69, .move (.tmp 1), none⟩,
      ⟨some 70, .call { callee := .value (.func 154), args := #[.tmp 8, .tmp 69], argTypes := #[139, 9] }, none⟩])
    (.reg [
      ⟨some 71, .move (.tmp 10), none⟩,
      ⟨some 72, .call { callee := .value (.func 154), args := #[.tmp 8, .tmp 71], argTypes := #[139, 9] }, none⟩]))))
    (.reg [
      ⟨some 73, .binOp .add 3 (.tmp 65) (.const (.int .i64 1)) 3, none⟩,
      ⟨some 65, .move (.tmp 73), none⟩])))))))
  (.seq
  (.reg [
    ⟨some 74, .call { callee := .value (.func 155), args := #[.tmp 8], argTypes := #[139] }, none⟩,
    ⟨some 4, .assign (.tmp 74), none⟩])
  .ret))))))))))
theorem hd122 : Try.f122.body.map dec = some c122 := by kernel_rfl
theorem e122 {R : AV → AH → Prop} {h : AH} (x0 x1 : AV) (H : h.wf → AI Try.prog c122 (RetQ Try.prog [.tmp 4] R) [x0, x1, un, un, un, un, un, un, un, un, un, un, un, un, un, un, un, un, un, un, un, un, un, un, un, un, un, un, un, un, un, un, un, un, un, un, un, un, un, un, un, un, un, un, un, un, un, un, un, un, un, un, un, un, un, un, un, un, un, un, un, un, un, un, un, un, un, un, un, un, un, un, un, un, un] h) : AC Try.prog 122 [x0, x1] h R :=
  AC_of' (rs := [.tmp 4]) Try.func122 (by kernel_rfl) hd122 Try.ntmps122 rfl H

/-- impl.RunWords$1 -/
def c121 : IC :=
  (.seq
  (.reg [
    ⟨some 4, .assign (.const (.string { data := #[] })), none⟩])
  (.seq
  (.reg [
    ⟨some 5, .move (.tmp 0), none⟩,
    ⟨some 6, .move (.tmp 1), none⟩,
    ⟨some 7, .buildSlice 58 2 #[(0, .tmp 5), (1, .tmp 6)], none⟩,
    ⟨some 8, .call { callee := .value (.func 122), args := #[.tmp 7, .const (.string { data := #[] })], argTypes := #[58, 9] }, none⟩,
    ⟨some 4, .assign (.tmp 8), none⟩])
  .ret))
theorem hd121 : Try.f121.body.map dec = some c121 := by kernel_rfl
theorem e121 {R : AV → AH → Prop} {h : AH} (x0 x1 : AV) (H : h.wf → AI Try.prog c121 (RetQ Try.prog [.tmp 4] R) [x0, x1, un, un, un, un, un, un, un] h) : AC Try.prog 121 [x0, x1] h R :=
  AC_of' (rs := [.tmp 4]) Try.func121 (by kernel_rfl) hd121 Try.ntmps121 rfl H

/-- impl.RunWords -/
def c52 : IC :=
  (.seq
  (.reg [
    ⟨some 2, .box 31 (.tmp 0), none⟩,
    ⟨some 4, .assign (.const (.slice none 0 0)), none⟩,
    ⟨some 5, .assign (.const (.bool false)), none⟩])
  (.seq
  (.reg [
    ⟨some 11, .buildSlice 29 0 #[], none⟩,
    ⟨some 6, .assign (.tmp 11), none⟩])
  (.seq
  (.seq
  (.reg [
    ⟨some 12, .move (.tmp 1), none⟩,
    ⟨some 13, .call { callee := .builtin .len, args := #[.tmp 12], argTypes := #[58] }, none⟩,
    ⟨some 14, .move (.const (.int .i64 0)), none⟩])
  (.block 0
  (.loop
    (.seq
    (.reg [
      ⟨some 15, .binOp .lss 3 (.tmp 14) (.tmp 13) 3, none⟩])
    (.seq
    (.cond (.tmp 15)
      .skip
      (.exit 0))
    (.seq
    (.block 1
    (.seq
    (.reg [
      ⟨some 16, .indexAddr 58 (.tmp 12) (.tmp 14), none⟩,
      ⟨some 17, .load 9 (.tmp 16), none⟩,
      ⟨some 8, .assign (.tmp 17), none⟩])
    (.reg [
      ⟨some 18, .move (.tmp 6), none⟩,
      ⟨some 19, .move (.tmp 8), none⟩,
      ⟨some 20, .call { callee := .builtin .len, args := #[.tmp 19], argTypes := #[9] }, none⟩,
      ⟨some 21, .buildSlice 29 1 #[(0, .tmp 20)], none⟩,
      ⟨some 22, .call { callee := .builtin .append, args := #[.tmp 18, .tmp 21], argTypes := #[29, 29] }, none⟩,
      ⟨some 6, .assign (.tmp 22), none⟩])))
    (.reg [
      ⟨some 23, .binOp .add 3 (.tmp 14) (.const (.int .i64 1)) 3, none⟩,
      ⟨some 14, .move (.tmp 23), none⟩])))))))
  (.seq
  (.seq
  (.reg [
    ⟨some 25, .move (.tmp 6), none⟩,
    ⟨some 26, .call { callee := .value (.func 118), args := #[.tmp 2, .tmp 25], argTypes := #[87, 29] }, none⟩,
    ⟨some 24, .move (.tmp 26), none⟩,
    ⟨some 27, .extract (.tmp 24) 0, none⟩,
    ⟨some 28, .extract (.tmp 24) 1, none⟩,
    ⟨some 9, .assign (.tmp 27), none⟩,
    ⟨some 10, .assign (.tmp 28), none⟩])
  (.seq
  (.reg [
    ⟨some 29, .move (.tmp 10), none⟩,
    ⟨some 30, .unOp .not 4 (.tmp 29), none⟩])
  (.cond (.tmp 30)
    (.seq
    (.reg [
      ⟨some 4, .assign (.const (.slice none 0 0)), none⟩,
      ⟨some 5, .assign (.const (.bool false)), none⟩])
    .ret)
    .skip)))
  (.seq
  (.reg [
    ⟨some 31, .move (.tmp 1), none⟩,
    ⟨some 32, .call { callee := .value (.func 120), args := #[.tmp 2, .tmp 31, .func 121], argTypes := #[87, 58, 118] }, none⟩,
    ⟨some 33, .call { callee := .value (.func 119), args := #[.tmp 2, .tmp 32], argTypes := #[87, 58] }, none⟩,
    ⟨some 4, .assign (.tmp 33), none⟩,
    ⟨some 5, .assign (.const (.bool true)), none⟩])
  .ret)))))
theorem hd52 : Try.f52.body.map dec = some c52 := by kernel_rfl
theorem e52 {R : AV → AH → Prop} {h : AH} (x0 x1 : AV) (H : h.wf → AI Try.prog c52 (RetQ Try.prog [.tmp 4, .tmp 5] R) [x0, x1, un, un, un, un, un, un, un, un, un, un, un, un, un, un, un, un, un, un, un, un, un, un, un, un, un, un, un, un, un, un, un, un] h) : AC Try.prog 52 [x0, x1] h R :=
  AC_of' (rs := [.tmp 4, .tmp 5]) Try.func52 (by kernel_rfl) hd52 Try.ntmps52 rfl H

noncomputable def rg53_0 : Array Oper := rawAt Try.f53 0
/-- laws.eqStringS -/
noncomputable def c53 : IC :=
  (.seq
  (.reg [
    ⟨some 4, .assign (.const (.bool false)), none⟩])
  (.seq
  (.seq
  (.reg [
    ⟨some 6, .move (.tmp 0), none⟩,
    ⟨some 7, .call { callee := .builtin .len, args := #[.tmp 6], argTypes := #[58] }, none⟩,
    ⟨some 8, .move (.tmp 1), none⟩,
    ⟨some 9, .call { callee := .builtin .len, args := #[.tmp 8], argTypes := #[58] }, none⟩,
    ⟨some 10, .binOp .neq 3 (.tmp 7) (.tmp 9) 3, none⟩])
  (.cond (.tmp 10)
    (.seq
    (.reg [
      ⟨some 4, .assign (.const (.bool false)), none⟩])
    .ret)
    .skip))
  (.seq
  (.seq
  (.reg [
    ⟨some 5, .assign (.const (.int .i64 0)), none⟩])
  (.block 0
  (.loop
    (.seq
    (.seq
    (.reg [
      ⟨some 11, .move (.tmp 5), none⟩,
      ⟨some 12, .move (.tmp 0), none⟩,
      ⟨some 13, .call { callee := .builtin .len, args := #[.tmp 12], argTypes := #[58] }, none⟩,
      ⟨some 14, .binOp .lss 3 (.tmp 11) (.tmp 13) 3, none⟩])
    (.cond (.tmp 14)
      .skip
      (.exit 0)))
    (.seq
    (.block 1
    (.seq
    (.raw (.region 6 rg53_0 true))
    (.cond (.tmp 25)
      (.seq
      (.reg [
        ⟨some 4, .assign (.const (.bool false)), none⟩])
      .ret)
      .skip)))
    (.reg [
      ⟨some 15, .move (.tmp 5), none⟩,
      ⟨some 16, .binOp .add 3 (.tmp 15) (.const (.int .i64 1)) 3, none⟩,
      ⟨some 5, .assign (.tmp 16), none⟩]))))))
  (.seq
  (.reg [
    ⟨some 4, .assign (.const (.bool true)), none⟩])
  .ret))))
theorem hd53 : Try.f53.body.map dec = some c53 := by kernel_rfl
theorem e53 {R : AV → AH → Prop} {h : AH} (x0 x1 : AV) (H : h.wf → AI Try.prog c53 (RetQ Try.prog [.tmp 4] R) [x0, x1, un, un, un, un, un, un, un, un, un, un, un, un, un, un, un, un, un, un, un, un, un, un, un, un] h) : AC Try.prog 53 [x0, x1] h R :=
  AC_of' (rs := [.tmp 4]) Try.func53 (by kernel_rfl) hd53 Try.ntmps53 rfl H
theorem dz53_0 {h0 : AH} {L : List It} {Q : Exit → List AV → List It → Prop} {a : List AV} {id : Nat} (H : LX Try.prog ⟨[], []⟩ h0 L L (.c (⟨some 17, .move (.tmp 0), none⟩, .p) <| .c (⟨some 18, .move (.tmp 5), none⟩, .p) <| .c (⟨some 19, .indexAddr 58 (.tmp 17) (.tmp 18), none⟩, .p) <| .c (⟨some 20, .load 9 (.tmp 19), none⟩, .l) <| .c (⟨some 21, .move (.tmp 1), none⟩, .p) <| .c (⟨some 22, .move (.tmp 5), none⟩, .p) <| .c (⟨some 23, .indexAddr 58 (.tmp 21) (.tmp 22), none⟩, .p) <| .c (⟨some 24, .load 9 (.tmp 23), none⟩, .l) <| .c (⟨some 25, .binOp .neq 9 (.tmp 20) (.tmp 24) 9, none⟩, .p) <| .n) Q a) : LI Try.prog h0 L (.raw (.region id rg53_0 true)) Q a :=
  LI_draw (.c (0, .p) <| .c (1, .p) <| .c (2, .p) <| .c (3, .l) <| .c (4, .p) <| .c (5, .p) <| .c (6, .p) <| .c (7, .l) <| .c (8, .p) <| .n) [] (by kernel_rfl) (by kernel_rfl) (by kernel_rfl) H
theorem dr53_0 (m : Nat) {Q : Exit → List AV → AH → Prop} {a : List AV} {h : AH} {id : Nat} (H : AX Try.prog m h [(⟨some 17, .move (.tmp 0), none⟩, true),
  (⟨some 18, .move (.tmp 5), none⟩, true),
  (⟨some 19, .indexAddr 58 (.tmp 17) (.tmp 18), none⟩, true),
  (⟨some 20, .load 9 (.tmp 19), none⟩, true),
  (⟨some 21, .move (.tmp 1), none⟩, true),
  (⟨some 22, .move (.tmp 5), none⟩, true),
  (⟨some 23, .indexAddr 58 (.tmp 21) (.tmp 22), none⟩, true),
  (⟨some 24, .load 9 (.tmp 23), none⟩, true),
  (⟨some 25, .binOp .neq 9 (.tmp 20) (.tmp 24) 9, none⟩, true)] (fun a' h' => Q .normal a' h') a h) : AI Try.prog (.raw (.region id rg53_0 true)) Q a h :=
  AI_draw [(0, true), (1, true), (2, true), (3, true), (4, true), (5, true), (6, true), (7, true), (8, true)] m (by kernel_rfl) (by kernel_rfl) (by kernel_rfl) H

/-- laws.markText -/
def c123 : IC :=
  (.seq
  (.reg [
    ⟨some 2, .assign (.const (.string { data := #[] })), none⟩])
  (.seq
  (.seq
  (.reg [
    ⟨some 4, .move (.tmp 0), none⟩,
    ⟨some 5, .binOp .leq 3 (.tmp 4) (.const (.int .i64 0)) 3, none⟩])
  (.cond (.tmp 5)
    (.seq
    (.reg [
      ⟨some 2, .assign (.const (.string { data := #[109, 48] })), none⟩])
    .ret)
    .skip))
  (.seq
  (.reg [
    ⟨some 3, .assign (.const (.string { data := #[] })), none⟩])
  (.seq
  (.block 0
  (.loop
    (.seq
    (.seq
    (.reg [
      ⟨some 6, .move (.tmp 0), none⟩,
      ⟨some 7, .binOp .gtr 3 (.tmp 6) (.const (.int .i64 0)) 3, none⟩])
    (.cond (.tmp 7)
      .skip
      (.exit 0)))
    (.block 1
    (.seq
    (.reg [
      ⟨some 8, .move (.tmp 0), none⟩,
      ⟨some 9, .binOp .rem 3 (.tmp 8) (.const (.int .i64 10)) 3, none⟩,
      ⟨some 10, .binOp .add 3 (.const (.int .i64 48)) (.tmp 9) 3, none⟩,
      ⟨some 11, .convert 3 5 (.tmp 10), none⟩,
      ⟨some 12, .buildSlice 25 1 #[(0, .tmp 11)], none⟩,
      ⟨some 13, .convert 25 9 (.tmp 12), none⟩,
      ⟨some 14, .move (.tmp 3), none⟩,
      ⟨some 15, .binOp .add 9 (.tmp 13) (.tmp 14) 9, none⟩,
      ⟨some 3, .assign (.tmp 15), none⟩])
    (.reg [
      ⟨some 16, .move (.tmp 0), none⟩,
      ⟨some 17, .binOp .quo 3 (.tmp 16) (.const (.int .i64 10)) 3, none⟩,
      ⟨some 0, .assign (.tmp 17), none⟩]))))))
  (.seq
  (.reg [
    ⟨some 18, .move (.tmp 3), none⟩,
    ⟨some 19, .binOp .add 9 (.const (.string { data := #[109] })) (.tmp 18) 9, none⟩,
    ⟨some 2, .assign (.tmp 19), none⟩])
  .ret)))))
theorem hd123 : Try.f123.body.map dec = some c123 := by kernel_rfl
theorem e123 {R : AV → AH → Prop} {h : AH} (x0 : AV) (H : h.wf → AI Try.prog c123 (RetQ Try.prog [.tmp 2] R) [x0, un, un, un, un, un, un, un, un, un, un, un, un, un, un, un, un, un, un, un] h) : AC Try.prog 123 [x0] h R :=
  AC_of' (rs := [.tmp 2]) Try.func123 (by kernel_rfl) hd123 Try.ntmps123 rfl H

/-- laws.markStringS -/
def c54 : IC :=
  (.seq
  (.reg [
    ⟨some 4, .assign (.const (.int .i64 0)), none⟩])
  (.seq
  (.seq
  (.reg [
    ⟨some 5, .assign (.const (.int .i64 0)), none⟩])
  (.block 0
  (.loop
    (.seq
    (.seq
    (.reg [
      ⟨some 6, .move (.tmp 5), none⟩,
      ⟨some 7, .move (.tmp 0), none⟩,
      ⟨some 8, .call { callee := .builtin .len, args := #[.tmp 7], argTypes := #[58] }, none⟩,
      ⟨some 9, .binOp .lss 3 (.tmp 6) (.tmp 8) 3, none⟩])
    (.cond (.tmp 9)
      .skip
      (.exit 0)))
    (.seq
    (.block 1
    (.seq
    (.reg [
      ⟨some 12, .move (.tmp 0), none⟩,
      ⟨some 13, .move (.tmp 5), none⟩,
      ⟨some 14, .move (.tmp 1), none⟩,
      ⟨some 15, .call { callee := .value (.func 123), args := #[.tmp 14], argTypes := #[3] }, none⟩,
      ⟨some 16, .indexAddr 58 (.tmp 12) (.tmp 13), none⟩,
      ⟨none, .store 9 (.tmp 16) (.tmp 15), none⟩])
    (.reg [
      ⟨some 17, .move (.tmp 1), none⟩,
      ⟨some 18, .binOp .add 3 (.tmp 17) (.const (.int .i64 1)) 3, none⟩,
      ⟨some 1, .assign (.tmp 18), none⟩])))
    (.reg [
      ⟨some 10, .move (.tmp 5), none⟩,
      ⟨some 11, .binOp .add 3 (.tmp 10) (.const (.int .i64 1)) 3, none⟩,
      ⟨some 5, .assign (.tmp 11), none⟩]))))))
  (.seq
  (.reg [
    ⟨some 19, .move (.tmp 1), none⟩,
    ⟨some 4, .assign (.tmp 19), none⟩])
  .ret)))
theorem hd54 : Try.f54.body.map dec = some c54 := by kernel_rfl
theorem e54 {R : AV → AH → Prop} {h : AH} (x0 x1 : AV) (H : h.wf → AI Try.prog c54 (RetQ Try.prog [.tmp 4] R) [x0, x1, un, un, un, un, un, un, un, un, un, un, un, un, un, un, un, un, un, un] h) : AC Try.prog 54 [x0, x1] h R :=
  AC_of' (rs := [.tmp 4]) Try.func54 (by kernel_rfl) hd54 Try.ntmps54 rfl H

noncomputable def rg55_0 : Array Oper := rawAt Try.f55 0
/-- laws.heldStringS -/
noncomputable def c55 : IC :=
  (.seq
  (.reg [
    ⟨some 4, .assign (.const (.int .i64 0)), none⟩])
  (.seq
  (.seq
  (.reg [
    ⟨some 5, .assign (.const (.int .i64 0)), none⟩])
  (.block 0
  (.loop
    (.seq
    (.seq
    (.reg [
      ⟨some 6, .move (.tmp 5), none⟩,
      ⟨some 7, .move (.tmp 0), none⟩,
      ⟨some 8, .call { callee := .builtin .len, args := #[.tmp 7], argTypes := #[58] }, none⟩,
      ⟨some 9, .binOp .lss 3 (.tmp 6) (.tmp 8) 3, none⟩])
    (.cond (.tmp 9)
      .skip
      (.exit 0)))
    (.seq
    (.block 1
    (.seq
    (.seq
    (.raw (.region 4 rg55_0 true))
    (.cond (.tmp 18)
      (.seq
      (.reg [
        ⟨some 4, .assign (.const (.int .i64 (-1))), none⟩])
      .ret)
      .skip))
    (.reg [
      ⟨some 19, .move (.tmp 1), none⟩,
      ⟨some 20, .binOp .add 3 (.tmp 19) (.const (.int .i64 1)) 3, none⟩,
      ⟨some 1, .assign (.tmp 20), none⟩])))
    (.reg [
      ⟨some 10, .move (.tmp 5), none⟩,
      ⟨some 11, .binOp .add 3 (.tmp 10) (.const (.int .i64 1)) 3, none⟩,
      ⟨some 5, .assign (.tmp 11), none⟩]))))))
  (.seq
  (.reg [
    ⟨some 21, .move (.tmp 1), none⟩,
    ⟨some 4, .assign (.tmp 21), none⟩])
  .ret)))
theorem hd55 : Try.f55.body.map dec = some c55 := by kernel_rfl
theorem e55 {R : AV → AH → Prop} {h : AH} (x0 x1 : AV) (H : h.wf → AI Try.prog c55 (RetQ Try.prog [.tmp 4] R) [x0, x1, un, un, un, un, un, un, un, un, un, un, un, un, un, un, un, un, un, un, un, un] h) : AC Try.prog 55 [x0, x1] h R :=
  AC_of' (rs := [.tmp 4]) Try.func55 (by kernel_rfl) hd55 Try.ntmps55 rfl H
theorem dz55_0 {h0 : AH} {L : List It} {Q : Exit → List AV → List It → Prop} {a : List AV} {id : Nat} (H : LX Try.prog ⟨[], []⟩ h0 L L (.c (⟨some 12, .move (.tmp 0), none⟩, .p) <| .c (⟨some 13, .move (.tmp 5), none⟩, .p) <| .c (⟨some 14, .indexAddr 58 (.tmp 12) (.tmp 13), none⟩, .p) <| .c (⟨some 15, .load 9 (.tmp 14), none⟩, .l) <| .c (⟨some 16, .move (.tmp 1), none⟩, .p) <| .c (⟨some 17, .call { callee := .value (.func 123), args := #[.tmp 16], argTypes := #[3] }, none⟩, .e) <| .c (⟨some 18, .binOp .neq 9 (.tmp 15) (.tmp 17) 9, none⟩, .p) <| .n) Q a) : LI Try.prog h0 L (.raw (.region id rg55_0 true)) Q a :=
  LI_draw (.c (0, .p) <| .c (1, .p) <| .c (2, .p) <| .c (3, .l) <| .c (4, .p) <| .c (5, .e) <| .c (6, .p) <| .n) [] (by kernel_rfl) (by kernel_rfl) (by kernel_rfl) H
theorem db55_0 {h0 : AH} {L : List It} {Q : Exit → List AV → List It → Prop} {a : List AV} {id : Nat} (K : List (Nat × List AV)) (hK : ∀ x ∈ K, It.pt x.1 x.2 ∈ L) (H : LX Try.prog ⟨[5], K⟩ h0 L L (.c (⟨some 12, .move (.tmp 0), none⟩, .p) <| .c (⟨some 13, .move (.tmp 5), none⟩, .p) <| .c (⟨some 14, .indexAddr 58 (.tmp 12) (.tmp 13), none⟩, .p) <| .c (⟨some 16, .move (.tmp 1), none⟩, .p) <| .t (.c (⟨some 15, .load 9 (.tmp 14), none⟩, .e) <| .c (⟨some 17, .call { callee := .value (.func 123), args := #[.tmp 16], argTypes := #[3] }, none⟩, .f) <| .c (⟨some 18, .binOp .neq 9 (.tmp 15) (.tmp 17) 9, none⟩, .p) <| .n) (.c (⟨some 17, .call { callee := .value (.func 123), args := #[.tmp 16], argTypes := #[3] }, none⟩, .f) <| .c (⟨some 15, .load 9 (.tmp 14), none⟩, .e) <| .c (⟨some 18, .binOp .neq 9 (.tmp 15) (.tmp 17) 9, none⟩, .p) <| .n)) Q a) : LI Try.prog h0 L (.raw (.region id rg55_0 true)) Q a :=
  LI_drawK (.c (0, .p) <| .c (1, .p) <| .c (2, .p) <| .c (4, .p) <| .t (.c (3, .e) <| .c (5, .f) <| .c (6, .p) <| .n) (.c (5, .f) <| .c (3, .e) <| .c (6, .p) <| .n)) [5] K hK (by kernel_rfl) (by kernel_rfl) (by kernel_rfl) H
theorem dr55_0 (m : Nat) {Q : Exit → List AV → AH → Prop} {a : List AV} {h : AH} {id : Nat} (H : AX Try.prog m h [(⟨some 12, .move (.tmp 0), none⟩, true),
  (⟨some 13, .move (.tmp 5), none⟩, true),
  (⟨some 14, .indexAddr 58 (.tmp 12) (.tmp 13), none⟩, true),
  (⟨some 15, .load 9 (.tmp 14), none⟩, true),
  (⟨some 16, .move (.tmp 1), none⟩, true),
  (⟨some 17, .call { callee := .value (.func 123), args := #[.tmp 16], argTypes := #[3] }, none⟩, false),
  (⟨some 18, .binOp .neq 9 (.tmp 15) (.tmp 17) 9, none⟩, true)] (fun a' h' => Q .normal a' h') a h) : AI Try.prog (.raw (.region id rg55_0 true)) Q a h :=
  AI_draw [(0, true), (1, true), (2, true), (3, true), (4, true), (5, false), (6, true)] m (by kernel_rfl) (by kernel_rfl) (by kernel_rfl) H

noncomputable def rg14_0 : Array Oper := rawAt Try.f14 0
/-- laws.FnExactRunWords -/
noncomputable def c14 : IC :=
  (.seq
  (.reg [
    ⟨some 2, .box 44 (.tmp 0), none⟩,
    ⟨some 4, .assign (.const (.bool false)), none⟩])
  (.seq
  (.reg [
    ⟨some 5, .assign (.const (.int .i64 1048576)), none⟩])
  (.seq
  (.reg [
    ⟨some 17, .load 44 (.tmp 2), none⟩,
    ⟨some 18, .move (.tmp 5), none⟩,
    ⟨some 19, .call { callee := .value (.func 34), args := #[.tmp 17, .tmp 18], argTypes := #[44, 3] }, none⟩,
    ⟨some 5, .assign (.tmp 19), none⟩])
  (.seq
  (.seq
  (.reg [
    ⟨some 20, .move (.tmp 5), none⟩,
    ⟨some 21, .binOp .lss 3 (.tmp 20) (.const (.int .i64 0)) 3, none⟩])
  (.cond (.tmp 21)
    (.seq
    (.reg [
      ⟨some 4, .assign (.const (.bool true)), none⟩])
    .ret)
    .skip))
  (.seq
  (.reg [
    ⟨some 22, .move (.tmp 1), none⟩,
    ⟨some 23, .move (.tmp 5), none⟩,
    ⟨some 24, .call { callee := .value (.func 49), args := #[.tmp 22, .tmp 23], argTypes := #[58, 3] }, none⟩,
    ⟨some 5, .assign (.tmp 24), none⟩])
  (.seq
  (.seq
  (.reg [
    ⟨some 25, .move (.tmp 5), none⟩,
    ⟨some 26, .binOp .lss 3 (.tmp 25) (.const (.int .i64 0)) 3, none⟩])
  (.cond (.tmp 26)
    (.seq
    (.reg [
      ⟨some 4, .assign (.const (.bool true)), none⟩])
    .ret)
    .skip))
  (.seq
  (.reg [
    ⟨some 28, .load 44 (.tmp 2), none⟩,
    ⟨some 29, .call { callee := .value (.func 36), args := #[.tmp 28], argTypes := #[44] }, none⟩,
    ⟨some 30, .move (.tmp 1), none⟩,
    ⟨some 31, .call { callee := .value (.func 51), args := #[.tmp 30], argTypes := #[58] }, none⟩,
    ⟨some 32, .call { callee := .value (.func 50), args := #[.tmp 29, .tmp 31], argTypes := #[31, 58] }, none⟩,
    ⟨some 27, .move (.tmp 32), none⟩,
    ⟨some 33, .extract (.tmp 27) 0, none⟩,
    ⟨some 34, .extract (.tmp 27) 1, none⟩,
    ⟨some 6, .assign (.tmp 33), none⟩,
    ⟨some 7, .assign (.tmp 34), none⟩])
  (.seq
  (.reg [
    ⟨some 35, .load 44 (.tmp 2), none⟩,
    ⟨some 36, .call { callee := .value (.func 36), args := #[.tmp 35], argTypes := #[44] }, none⟩,
    ⟨some 8, .alloc 31, none⟩,
    ⟨none, .store 31 (.tmp 8) (.tmp 36), none⟩])
  (.seq
  (.reg [
    ⟨some 37, .move (.tmp 1), none⟩,
    ⟨some 38, .call { callee := .value (.func 51), args := #[.tmp 37], argTypes := #[58] }, none⟩,
    ⟨some 9, .assign (.tmp 38), none⟩])
  (.seq
  (.reg [
    ⟨some 40, .load 31 (.tmp 8), none⟩,
    ⟨some 41, .move (.tmp 9), none⟩,
    ⟨some 42, .call { callee := .value (.func 52), args := #[.tmp 40, .tmp 41], argTypes := #[31, 58] }, none⟩,
    ⟨some 39, .move (.tmp 42), none⟩,
    ⟨some 43, .extract (.tmp 39) 0, none⟩,
    ⟨some 44, .extract (.tmp 39) 1, none⟩,
    ⟨some 10, .assign (.tmp 43), none⟩,
    ⟨some 11, .assign (.tmp 44), none⟩])
  (.seq
  (.seq
  (.reg [
    ⟨some 45, .move (.tmp 10), none⟩,
    ⟨some 46, .move (.tmp 6), none⟩,
    ⟨some 47, .call { callee := .value (.func 53), args := #[.tmp 45, .tmp 46], argTypes := #[58, 58] }, none⟩,
    ⟨some 48, .unOp .not 4 (.tmp 47), none⟩,
    ⟨some 49, .move (.tmp 48), none⟩,
    ⟨some 50, .move (.tmp 11), some (49, false)⟩,
    ⟨some 51, .move (.tmp 7), some (49, false)⟩,
    ⟨some 52, .binOp .neq 4 (.tmp 50) (.tmp 51) 4, some (49, false)⟩,
    ⟨some 53, .pick (.tmp 49) (.const (.bool true)) (.tmp 52), none⟩])
  (.cond (.tmp 53)
    (.seq
    (.reg [
      ⟨some 4, .assign (.const (.bool false)), none⟩])
    .ret)
    .skip))
  (.seq
  (.seq
  (.raw (.region 14 rg14_0 true))
  (.cond (.tmp 58)
    (.seq
    (.reg [
      ⟨some 4, .assign (.const (.bool false)), none⟩])
    .ret)
    .skip))
  (.seq
  (.seq
  (.reg [
    ⟨some 59, .move (.tmp 9), none⟩,
    ⟨some 60, .move (.tmp 1), none⟩,
    ⟨some 61, .call { callee := .value (.func 51), args := #[.tmp 60], argTypes := #[58] }, none⟩,
    ⟨some 62, .call { callee := .value (.func 53), args := #[.tmp 59, .tmp 61], argTypes := #[58, 58] }, none⟩,
    ⟨some 63, .unOp .not 4 (.tmp 62), none⟩])
  (.cond (.tmp 63)
    (.seq
    (.reg [
      ⟨some 4, .assign (.const (.bool false)), none⟩])
    .ret)
    .skip))
  (.seq
  (.reg [
    ⟨some 12, .assign (.const (.int .i64 1)), none⟩])
  (.seq
  (.reg [
    ⟨some 64, .load 31 (.tmp 8), none⟩,
    ⟨some 65, .move (.tmp 12), none⟩,
    ⟨some 66, .call { callee := .value (.func 25), args := #[.tmp 64, .tmp 65], argTypes := #[31, 3] }, none⟩,
    ⟨some 12, .assign (.tmp 66), none⟩])
  (.seq
  (.reg [
    ⟨some 67, .move (.tmp 9), none⟩,
    ⟨some 68, .move (.tmp 12), none⟩,
    ⟨some 69, .call { callee := .value (.func 54), args := #[.tmp 67, .tmp 68], argTypes := #[58, 3] }, none⟩,
    ⟨some 12, .assign (.tmp 69), none⟩])
  (.seq
  (.seq
  (.reg [
    ⟨some 70, .move (.tmp 12), none⟩,
    ⟨some 71, .binOp .lss 3 (.tmp 70) (.const (.int .i64 0)) 3, none⟩,
    ⟨some 72, .move (.tmp 71), none⟩,
    ⟨some 73, .move (.tmp 10), some (72, false)⟩,
    ⟨some 74, .move (.tmp 6), some (72, false)⟩,
    ⟨some 75, .call { callee := .value (.func 53), args := #[.tmp 73, .tmp 74], argTypes := #[58, 58] }, some (72, false)⟩,
    ⟨some 76, .unOp .not 4 (.tmp 75), some (72, false)⟩,
    ⟨some 77, .pick (.tmp 72) (.const (.bool true)) (.tmp 76), none⟩,
    ⟨some 78, .move (.tmp 77), none⟩,
    ⟨some 79, .move (.tmp 11), some (78, false)⟩,
    ⟨some 80, .move (.tmp 7), some (78, false)⟩,
    ⟨some 81, .binOp .neq 4 (.tmp 79) (.tmp 80) 4, some (78, false)⟩,
    ⟨some 82, .pick (.tmp 78) (.const (.bool true)) (.tmp 81), none⟩])
  (.cond (.tmp 82)
    (.seq
    (.reg [
      ⟨some 4, .assign (.const (.bool false)), none⟩])
    .ret)
    .skip))
  (.seq
  (.reg [
    ⟨some 13, .assign (.const (.int .i64 1)), none⟩])
  (.seq
  (.reg [
    ⟨some 83, .move (.tmp 10), none⟩,
    ⟨some 84, .move (.tmp 13), none⟩,
    ⟨some 85, .call { callee := .value (.func 54), args := #[.tmp 83, .tmp 84], argTypes := #[58, 3] }, none⟩,
    ⟨some 13, .assign (.tmp 85), none⟩])
  (.seq
  (.reg [
    ⟨some 14, .assign (.const (.int .i64 1)), none⟩])
  (.seq
  (.reg [
    ⟨some 86, .move (.tmp 10), none⟩,
    ⟨some 87, .move (.tmp 14), none⟩,
    ⟨some 88, .call { callee := .value (.func 55), args := #[.tmp 86, .tmp 87], argTypes := #[58, 3] }, none⟩,
    ⟨some 14, .assign (.tmp 88), none⟩])
  (.seq
  (.seq
  (.reg [
    ⟨some 89, .move (.tmp 14), none⟩,
    ⟨some 90, .binOp .lss 3 (.tmp 89) (.const (.int .i64 0)) 3, none⟩])
  (.cond (.tmp 90)
    (.seq
    (.reg [
      ⟨some 4, .assign (.const (.bool false)), none⟩])
    .ret)
    .skip))
  (.seq
  (.seq
  (.reg [
    ⟨some 91, .move (.tmp 14), none⟩,
    ⟨some 92, .move (.tmp 13), none⟩,
    ⟨some 93, .binOp .neq 3 (.tmp 91) (.tmp 92) 3, none⟩])
  (.cond (.tmp 93)
    (.seq
    (.reg [
      ⟨some 4, .assign (.const (.bool false)), none⟩])
    .ret)
    .skip))
  (.seq
  (.reg [
    ⟨some 95, .load 44 (.tmp 2), none⟩,
    ⟨some 96, .call { callee := .value (.func 36), args := #[.tmp 95], argTypes := #[44] }, none⟩,
    ⟨some 97, .move (.tmp 1), none⟩,
    ⟨some 98, .call { callee := .value (.func 51), args := #[.tmp 97], argTypes := #[58] }, none⟩,
    ⟨some 99, .call { callee := .value (.func 52), args := #[.tmp 96, .tmp 98], argTypes := #[31, 58] }, none⟩,
    ⟨some 94, .move (.tmp 99), none⟩,
    ⟨some 100, .extract (.tmp 94) 0, none⟩,
    ⟨some 101, .extract (.tmp 94) 1, none⟩,
    ⟨some 15, .assign (.tmp 100), none⟩,
    ⟨some 16, .assign (.tmp 101), none⟩])
  (.seq
  (.seq
  (.reg [
    ⟨some 102, .move (.tmp 15), none⟩,
    ⟨some 103, .move (.tmp 6), none⟩,
    ⟨some 104, .call { callee := .value (.func 53), args := #[.tmp 102, .tmp 103], argTypes := #[58, 58] }, none⟩,
    ⟨some 105, .unOp .not 4 (.tmp 104), none⟩,
    ⟨some 106, .move (.tmp 105), none⟩,
    ⟨some 107, .move (.tmp 16), some (106, false)⟩,
    ⟨some 108, .move (.tmp 7), some (106, false)⟩,
    ⟨some 109, .binOp .neq 4 (.tmp 107) (.tmp 108) 4, some (106, false)⟩,
    ⟨some 110, .pick (.tmp 106) (.const (.bool true)) (.tmp 109), none⟩])
  (.cond (.tmp 110)
    (.seq
    (.reg [
      ⟨some 4, .assign (.const (.bool false)), none⟩])
    .ret)
    .skip))
  (.seq
  (.reg [
    ⟨some 14, .assign (.const (.int .i64 1)), none⟩])
  (.seq
  (.reg [
    ⟨some 111, .move (.tmp 10), none⟩,
    ⟨some 112, .move (.tmp 14), none⟩,
    ⟨some 113, .call { callee := .value (.func 55), args := #[.tmp 111, .tmp 112], argTypes := #[58, 3] }, none⟩,
    ⟨some 14, .assign (.tmp 113), none⟩])
  (.seq
  (.seq
  (.reg [
    ⟨some 114, .move (.tmp 14), none⟩,
    ⟨some 115, .binOp .lss 3 (.tmp 114) (.const (.int .i64 0)) 3, none⟩])
  (.cond (.tmp 115)
    (.seq
    (.reg [
      ⟨some 4, .assign (.const (.bool false)), none⟩])
    .ret)
    .skip))
  (.seq
  (.seq
  (.reg [
    ⟨some 116, .move (.tmp 14), none⟩,
    ⟨some 117, .move (.tmp 13), none⟩,
    ⟨some 118, .binOp .neq 3 (.tmp 116) (.tmp 117) 3, none⟩])
  (.cond (.tmp 118)
    (.seq
    (.reg [
      ⟨some 4, .assign (.const (.bool false)), none⟩])
    .ret)
    .skip))
  (.seq
  (.reg [
    ⟨some 4, .assign (.const (.bool true)), none⟩])
  .ret))))))))))))))))))))))))))))))
theorem hd14 : Try.f14.body.map dec = some c14 := by kernel_rfl
theorem e14 {R : AV → AH → Prop} {h : AH} (x0 x1 : AV) (H : h.wf → AI Try.prog c14 (RetQ Try.prog [.tmp 4] R) [x0, x1, un, un, un, un, un, un, un, un, un, un, un, un, un, un, un, un, un, un, un, un, un, un, un, un, un, un, un, un, un, un, un, un, un, un, un, un, un, un, un, un, un, un, un, un, un, un, un, un, un, un, un, un, un, un, un, un, un, un, un, un, un, un, un, un, un, un, un, un, un, un, un, un, un, un, un, un, un, un, un, un, un, un, un, un, un, un, un, un, un, un, un, un, un, un, un, un, un, un, un, un, un, un, un, un, un, un, un, un, un, un, un, un, un, un, un, un, un] h) : AC Try.prog 14 [x0, x1] h R :=
  AC_of' (rs := [.tmp 4]) Try.func14 (by kernel_rfl) hd14 Try.ntmps14 rfl H
theorem dz14_0 {h0 : AH} {L : List It} {Q : Exit → List AV → List It → Prop} {a : List AV} {id : Nat} (H : LX Try.prog ⟨[], []⟩ h0 L L (.c (⟨some 54, .load 31 (.tmp 8), none⟩, .l) <| .c (⟨some 55, .load 44 (.tmp 2), none⟩, .l) <| .c (⟨some 56, .call { callee := .value (.func 36), args := #[.tmp 55], argTypes := #[44] }, none⟩, .e) <| .c (⟨some 57, .call { callee := .value (.func 24), args := #[.tmp 54, .tmp 56], argTypes := #[31, 31] }, none⟩, .e) <| .c (⟨some 58, .unOp .not 4 (.tmp 57), none⟩, .p) <| .n) Q a) : LI Try.prog h0 L (.raw (.region id rg14_0 true)) Q a :=
  LI_draw (.c (0, .l) <| .c (1, .l) <| .c (2, .e) <| .c (3, .e) <| .c (4, .p) <| .n) [] (by kernel_rfl) (by kernel_rfl) (by kernel_rfl) H
theorem db14_0 {h0 : AH} {L : List It} {Q : Exit → List AV → List It → Prop} {a : List AV} {id : Nat} (K : List (Nat × List AV)) (hK : ∀ x ∈ K, It.pt x.1 x.2 ∈ L) (H : LX Try.prog ⟨[2, 3], K⟩ h0 L L (.c (⟨some 55, .load 44 (.tmp 2), none⟩, .l) <| .t (.c (⟨some 54, .load 31 (.tmp 8), none⟩, .e) <| .c (⟨some 56, .call { callee := .value (.func 36), args := #[.tmp 55], argTypes := #[44] }, none⟩, .f) <| .c (⟨some 57, .call { callee := .value (.func 24), args := #[.tmp 54, .tmp 56], argTypes := #[31, 31] }, none⟩, .f) <| .c (⟨some 58, .unOp .not 4 (.tmp 57), none⟩, .p) <| .n) (.c (⟨some 56, .call { callee := .value (.func 36), args := #[.tmp 55], argTypes := #[44] }, none⟩, .f) <| .c (⟨some 54, .load 31 (.tmp 8), none⟩, .e) <| .c (⟨some 57, .call { callee := .value (.func 24), args := #[.tmp 54, .tmp 56], argTypes := #[31, 31] }, none⟩, .f) <| .c (⟨some 58, .unOp .not 4 (.tmp 57), none⟩, .p) <| .n)) Q a) : LI Try.prog h0 L (.raw (.region id rg14_0 true)) Q a :=
  LI_drawK (.c (1, .l) <| .t (.c (0, .e) <| .c (2, .f) <| .c (3, .f) <| .c (4, .p) <| .n) (.c (2, .f) <| .c (0, .e) <| .c (3, .f) <| .c (4, .p) <| .n)) [2, 3] K hK (by kernel_rfl) (by kernel_rfl) (by kernel_rfl) H
theorem dr14_0 (m : Nat) {Q : Exit → List AV → AH → Prop} {a : List AV} {h : AH} {id : Nat} (H : AX Try.prog m h [(⟨some 54, .load 31 (.tmp 8), none⟩, true),
  (⟨some 55, .load 44 (.tmp 2), none⟩, true),
  (⟨some 56, .call { callee := .value (.func 36), args := #[.tmp 55], argTypes := #[44] }, none⟩, false),
  (⟨some 57, .call { callee := .value (.func 24), args := #[.tmp 54, .tmp 56], argTypes := #[31, 31] }, none⟩, false),
  (⟨some 58, .unOp .not 4 (.tmp 57), none⟩, true)] (fun a' h' => Q .normal a' h') a h) : AI Try.prog (.raw (.region id rg14_0 true)) Q a h :=
  AI_draw [(0, true), (1, true), (2, false), (3, false), (4, true)] m (by kernel_rfl) (by kernel_rfl) (by kernel_rfl) H

end Go.Proofs.Ytdcliofmdlhmaaa
