/- The short forms of the functions' code, and facts on types. -/
import Derived.Test.YtcopnjopglfllaaProg
import Derived.Test.YtcopnjopglfllaaD6
namespace Go.Proofs.Ytcopnjopglfllaa
open Go.AL
set_option linter.unusedVariables false
theorem sz0 : szT Try.prog 0 = some 1 := by kernel_rfl
theorem by0 : byT Try.prog 0 = some 0 := by kernel_rfl
theorem ag0 : aggT Try.prog 0 = some false := by kernel_rfl
instance jsz0 : Tsz Try.prog 0 1 := ⟨sz0⟩
instance jby0 : Tby Try.prog 0 0 := ⟨by0⟩
instance jag0 : Tag Try.prog 0 false := ⟨ag0⟩
theorem sz1 : szT Try.prog 1 = some 1 := by kernel_rfl
theorem by1 : byT Try.prog 1 = some 8 := by kernel_rfl
theorem ag1 : aggT Try.prog 1 = some false := by kernel_rfl
instance jsz1 : Tsz Try.prog 1 1 := ⟨sz1⟩
instance jby1 : Tby Try.prog 1 8 := ⟨by1⟩
instance jag1 : Tag Try.prog 1 false := ⟨ag1⟩
theorem ze1 : zeroA Try.prog 1 = some .nf := by kernel_rfl
instance jze1 : Tze Try.prog 1 (.nf) := ⟨ze1⟩
theorem sz2 : szT Try.prog 2 = some 1 := by kernel_rfl
theorem by2 : byT Try.prog 2 = some 8 := by kernel_rfl
theorem ag2 : aggT Try.prog 2 = some false := by kernel_rfl
instance jsz2 : Tsz Try.prog 2 1 := ⟨sz2⟩
instance jby2 : Tby Try.prog 2 8 := ⟨by2⟩
instance jag2 : Tag Try.prog 2 false := ⟨ag2⟩
instance jik2 : Tik Try.prog 2 .i64 := ⟨Try.underlying2⟩
theorem ze2 : zeroA Try.prog 2 = some (.i .i64 0) := by kernel_rfl
instance jze2 : Tze Try.prog 2 (.i .i64 0) := ⟨ze2⟩
theorem sz3 : szT Try.prog 3 = some 1 := by kernel_rfl
theorem by3 : byT Try.prog 3 = some 8 := by kernel_rfl
theorem ag3 : aggT Try.prog 3 = some false := by kernel_rfl
instance jsz3 : Tsz Try.prog 3 1 := ⟨sz3⟩
instance jby3 : Tby Try.prog 3 8 := ⟨by3⟩
instance jag3 : Tag Try.prog 3 false := ⟨ag3⟩
instance jik3 : Tik Try.prog 3 .i64 := ⟨Try.underlying3⟩
theorem ze3 : zeroA Try.prog 3 = some (.i .i64 0) := by kernel_rfl
instance jze3 : Tze Try.prog 3 (.i .i64 0) := ⟨ze3⟩
theorem sz4 : szT Try.prog 4 = some 1 := by kernel_rfl
theorem by4 : byT Try.prog 4 = some 1 := by kernel_rfl
theorem ag4 : aggT Try.prog 4 = some false := by kernel_rfl
instance jsz4 : Tsz Try.prog 4 1 := ⟨sz4⟩
instance jby4 : Tby Try.prog 4 1 := ⟨by4⟩
instance jag4 : Tag Try.prog 4 false := ⟨ag4⟩
instance jbo4 : Tbo Try.prog 4 := ⟨Try.underlying4⟩
theorem ze4 : zeroA Try.prog 4 = some (.b false) := by kernel_rfl
instance jze4 : Tze Try.prog 4 (.b false) := ⟨ze4⟩
theorem sz5 : szT Try.prog 5 = some 1 := by kernel_rfl
theorem by5 : byT Try.prog 5 = some 1 := by kernel_rfl
theorem ag5 : aggT Try.prog 5 = some false := by kernel_rfl
instance jsz5 : Tsz Try.prog 5 1 := ⟨sz5⟩
instance jby5 : Tby Try.prog 5 1 := ⟨by5⟩
instance jag5 : Tag Try.prog 5 false := ⟨ag5⟩
instance jik5 : Tik Try.prog 5 .u8 := ⟨Try.underlying5⟩
theorem ze5 : zeroA Try.prog 5 = some (.i .u8 0) := by kernel_rfl
instance jze5 : Tze Try.prog 5 (.i .u8 0) := ⟨ze5⟩
theorem sz9 : szT Try.prog 9 = some 1 := by kernel_rfl
theorem by9 : byT Try.prog 9 = some 16 := by kernel_rfl
theorem ag9 : aggT Try.prog 9 = some false := by kernel_rfl
instance jsz9 : Tsz Try.prog 9 1 := ⟨sz9⟩
instance jby9 : Tby Try.prog 9 16 := ⟨by9⟩
instance jag9 : Tag Try.prog 9 false := ⟨ag9⟩
instance jst9 : Tst Try.prog 9 := ⟨Try.underlying9⟩
theorem ze9 : zeroA Try.prog 9 = some (.s ⟨#[]⟩) := by kernel_rfl
instance jze9 : Tze Try.prog 9 (.s ⟨#[]⟩) := ⟨ze9⟩
theorem sz22 : szT Try.prog 22 = some 1 := by kernel_rfl
theorem by22 : byT Try.prog 22 = some 24 := by kernel_rfl
theorem ag22 : aggT Try.prog 22 = some false := by kernel_rfl
instance jsz22 : Tsz Try.prog 22 1 := ⟨sz22⟩
instance jby22 : Tby Try.prog 22 24 := ⟨by22⟩
instance jag22 : Tag Try.prog 22 false := ⟨ag22⟩
instance jsl22 : Tsl Try.prog 22 31 := ⟨Try.underlying22⟩
theorem ze22 : zeroA Try.prog 22 = some .ns := by kernel_rfl
instance jze22 : Tze Try.prog 22 (.ns) := ⟨ze22⟩
theorem sz31 : szT Try.prog 31 = some 1 := by kernel_rfl
theorem by31 : byT Try.prog 31 = some 24 := by kernel_rfl
theorem ag31 : aggT Try.prog 31 = some false := by kernel_rfl
instance jsz31 : Tsz Try.prog 31 1 := ⟨sz31⟩
instance jby31 : Tby Try.prog 31 24 := ⟨by31⟩
instance jag31 : Tag Try.prog 31 false := ⟨ag31⟩
instance jsl31 : Tsl Try.prog 31 3 := ⟨Try.underlying31⟩
theorem ze31 : zeroA Try.prog 31 = some .ns := by kernel_rfl
instance jze31 : Tze Try.prog 31 (.ns) := ⟨ze31⟩
theorem sz37 : szT Try.prog 37 = some 1 := by kernel_rfl
theorem by37 : byT Try.prog 37 = some 8 := by kernel_rfl
theorem ag37 : aggT Try.prog 37 = some false := by kernel_rfl
instance jsz37 : Tsz Try.prog 37 1 := ⟨sz37⟩
instance jby37 : Tby Try.prog 37 8 := ⟨by37⟩
instance jag37 : Tag Try.prog 37 false := ⟨ag37⟩
theorem ze37 : zeroA Try.prog 37 = some .nf := by kernel_rfl
instance jze37 : Tze Try.prog 37 (.nf) := ⟨ze37⟩
theorem sz43 : szT Try.prog 43 = some 1 := by kernel_rfl
theorem by43 : byT Try.prog 43 = some 24 := by kernel_rfl
theorem ag43 : aggT Try.prog 43 = some false := by kernel_rfl
instance jsz43 : Tsz Try.prog 43 1 := ⟨sz43⟩
instance jby43 : Tby Try.prog 43 24 := ⟨by43⟩
instance jag43 : Tag Try.prog 43 false := ⟨ag43⟩
instance jsl43 : Tsl Try.prog 43 90 := ⟨Try.underlying43⟩
theorem ze43 : zeroA Try.prog 43 = some .ns := by kernel_rfl
instance jze43 : Tze Try.prog 43 (.ns) := ⟨ze43⟩
theorem sz45 : szT Try.prog 45 = some 3 := by kernel_rfl
theorem by45 : byT Try.prog 45 = some 56 := by kernel_rfl
theorem ag45 : aggT Try.prog 45 = some true := by kernel_rfl
instance jsz45 : Tsz Try.prog 45 3 := ⟨sz45⟩
instance jby45 : Tby Try.prog 45 56 := ⟨by45⟩
instance jag45 : Tag Try.prog 45 true := ⟨ag45⟩
theorem ze45 : zeroA Try.prog 45 = some (.agg [(.i .i64 0), .ns, .ns]) := by kernel_rfl
instance jze45 : Tze Try.prog 45 (.agg [(.i .i64 0), .ns, .ns]) := ⟨ze45⟩
theorem fl45_0 : fldA Try.prog 45 0 = some (0, 1, false) := by kernel_rfl
instance jfl45_0 : Tfl Try.prog 45 0 0 1 false := ⟨fl45_0⟩
theorem fl45_1 : fldA Try.prog 45 1 = some (1, 1, false) := by kernel_rfl
instance jfl45_1 : Tfl Try.prog 45 1 1 1 false := ⟨fl45_1⟩
theorem fl45_2 : fldA Try.prog 45 2 = some (2, 1, false) := by kernel_rfl
instance jfl45_2 : Tfl Try.prog 45 2 2 1 false := ⟨fl45_2⟩
theorem pa45 : plA Try.prog 45 = some [(0, 1), (1, 1), (2, 1)] := by kernel_rfl
instance jpl45 : Tpl Try.prog 45 [(0, 1), (1, 1), (2, 1)] := ⟨pa45⟩
theorem sz49 : szT Try.prog 49 = some 1 := by kernel_rfl
theorem by49 : byT Try.prog 49 = some 24 := by kernel_rfl
theorem ag49 : aggT Try.prog 49 = some false := by kernel_rfl
instance jsz49 : Tsz Try.prog 49 1 := ⟨sz49⟩
instance jby49 : Tby Try.prog 49 24 := ⟨by49⟩
instance jag49 : Tag Try.prog 49 false := ⟨ag49⟩
instance jsl49 : Tsl Try.prog 49 73 := ⟨Try.underlying49⟩
theorem ze49 : zeroA Try.prog 49 = some .ns := by kernel_rfl
instance jze49 : Tze Try.prog 49 (.ns) := ⟨ze49⟩
theorem sz51 : szT Try.prog 51 = some 3 := by kernel_rfl
theorem by51 : byT Try.prog 51 = some 56 := by kernel_rfl
theorem ag51 : aggT Try.prog 51 = some true := by kernel_rfl
instance jsz51 : Tsz Try.prog 51 3 := ⟨sz51⟩
instance jby51 : Tby Try.prog 51 56 := ⟨by51⟩
instance jag51 : Tag Try.prog 51 true := ⟨ag51⟩
theorem ze51 : zeroA Try.prog 51 = some (.agg [(.i .i64 0), .ns, .ns]) := by kernel_rfl
instance jze51 : Tze Try.prog 51 (.agg [(.i .i64 0), .ns, .ns]) := ⟨ze51⟩
theorem fl51_0 : fldA Try.prog 51 0 = some (0, 1, false) := by kernel_rfl
instance jfl51_0 : Tfl Try.prog 51 0 0 1 false := ⟨fl51_0⟩
theorem fl51_1 : fldA Try.prog 51 1 = some (1, 1, false) := by kernel_rfl
instance jfl51_1 : Tfl Try.prog 51 1 1 1 false := ⟨fl51_1⟩
theorem fl51_2 : fldA Try.prog 51 2 = some (2, 1, false) := by kernel_rfl
instance jfl51_2 : Tfl Try.prog 51 2 2 1 false := ⟨fl51_2⟩
theorem pa51 : plA Try.prog 51 = some [(0, 1), (1, 1), (2, 1)] := by kernel_rfl
instance jpl51 : Tpl Try.prog 51 [(0, 1), (1, 1), (2, 1)] := ⟨pa51⟩
theorem sz59 : szT Try.prog 59 = some 1 := by kernel_rfl
theorem by59 : byT Try.prog 59 = some 8 := by kernel_rfl
theorem ag59 : aggT Try.prog 59 = some false := by kernel_rfl
instance jsz59 : Tsz Try.prog 59 1 := ⟨sz59⟩
instance jby59 : Tby Try.prog 59 8 := ⟨by59⟩
instance jag59 : Tag Try.prog 59 false := ⟨ag59⟩
theorem ze59 : zeroA Try.prog 59 = some .nf := by kernel_rfl
instance jze59 : Tze Try.prog 59 (.nf) := ⟨ze59⟩
theorem sz61 : szT Try.prog 61 = some 1 := by kernel_rfl
theorem by61 : byT Try.prog 61 = some 8 := by kernel_rfl
theorem ag61 : aggT Try.prog 61 = some false := by kernel_rfl
instance jsz61 : Tsz Try.prog 61 1 := ⟨sz61⟩
instance jby61 : Tby Try.prog 61 8 := ⟨by61⟩
instance jag61 : Tag Try.prog 61 false := ⟨ag61⟩
instance jik61 : Tik Try.prog 61 .u64 := ⟨Try.underlying61⟩
theorem ze61 : zeroA Try.prog 61 = some (.i .u64 0) := by kernel_rfl
instance jze61 : Tze Try.prog 61 (.i .u64 0) := ⟨ze61⟩
theorem sz65 : szT Try.prog 65 = some 1 := by kernel_rfl
theorem by65 : byT Try.prog 65 = some 8 := by kernel_rfl
theorem ag65 : aggT Try.prog 65 = some false := by kernel_rfl
instance jsz65 : Tsz Try.prog 65 1 := ⟨sz65⟩
instance jby65 : Tby Try.prog 65 8 := ⟨by65⟩
instance jag65 : Tag Try.prog 65 false := ⟨ag65⟩
theorem ze65 : zeroA Try.prog 65 = some .nf := by kernel_rfl
instance jze65 : Tze Try.prog 65 (.nf) := ⟨ze65⟩
theorem sz73 : szT Try.prog 73 = some 2 := by kernel_rfl
theorem by73 : byT Try.prog 73 = some 16 := by kernel_rfl
theorem ag73 : aggT Try.prog 73 = some true := by kernel_rfl
instance jsz73 : Tsz Try.prog 73 2 := ⟨sz73⟩
instance jby73 : Tby Try.prog 73 16 := ⟨by73⟩
instance jag73 : Tag Try.prog 73 true := ⟨ag73⟩
theorem ze73 : zeroA Try.prog 73 = some (.agg [(.i .i64 0), (.i .i64 0)]) := by kernel_rfl
instance jze73 : Tze Try.prog 73 (.agg [(.i .i64 0), (.i .i64 0)]) := ⟨ze73⟩
theorem fl73_0 : fldA Try.prog 73 0 = some (0, 1, false) := by kernel_rfl
instance jfl73_0 : Tfl Try.prog 73 0 0 1 false := ⟨fl73_0⟩
theorem fl73_1 : fldA Try.prog 73 1 = some (1, 1, false) := by kernel_rfl
instance jfl73_1 : Tfl Try.prog 73 1 1 1 false := ⟨fl73_1⟩
theorem pa73 : plA Try.prog 73 = some [(0, 1), (1, 1)] := by kernel_rfl
instance jpl73 : Tpl Try.prog 73 [(0, 1), (1, 1)] := ⟨pa73⟩
theorem sz76 : szT Try.prog 76 = some 1 := by kernel_rfl
theorem by76 : byT Try.prog 76 = some 8 := by kernel_rfl
theorem ag76 : aggT Try.prog 76 = some false := by kernel_rfl
instance jsz76 : Tsz Try.prog 76 1 := ⟨sz76⟩
instance jby76 : Tby Try.prog 76 8 := ⟨by76⟩
instance jag76 : Tag Try.prog 76 false := ⟨ag76⟩
theorem ze76 : zeroA Try.prog 76 = some .np := by kernel_rfl
instance jze76 : Tze Try.prog 76 (.np) := ⟨ze76⟩
theorem sz85 : szT Try.prog 85 = some 1 := by kernel_rfl
theorem by85 : byT Try.prog 85 = some 8 := by kernel_rfl
theorem ag85 : aggT Try.prog 85 = some false := by kernel_rfl
instance jsz85 : Tsz Try.prog 85 1 := ⟨sz85⟩
instance jby85 : Tby Try.prog 85 8 := ⟨by85⟩
instance jag85 : Tag Try.prog 85 false := ⟨ag85⟩
theorem ze85 : zeroA Try.prog 85 = some .nf := by kernel_rfl
instance jze85 : Tze Try.prog 85 (.nf) := ⟨ze85⟩
theorem sz90 : szT Try.prog 90 = some 2 := by kernel_rfl
theorem by90 : byT Try.prog 90 = some 16 := by kernel_rfl
theorem ag90 : aggT Try.prog 90 = some true := by kernel_rfl
instance jsz90 : Tsz Try.prog 90 2 := ⟨sz90⟩
instance jby90 : Tby Try.prog 90 16 := ⟨by90⟩
instance jag90 : Tag Try.prog 90 true := ⟨ag90⟩
theorem ze90 : zeroA Try.prog 90 = some (.agg [(.i .i64 0), (.i .i64 0)]) := by kernel_rfl
instance jze90 : Tze Try.prog 90 (.agg [(.i .i64 0), (.i .i64 0)]) := ⟨ze90⟩
theorem fl90_0 : fldA Try.prog 90 0 = some (0, 1, false) := by kernel_rfl
instance jfl90_0 : Tfl Try.prog 90 0 0 1 false := ⟨fl90_0⟩
theorem fl90_1 : fldA Try.prog 90 1 = some (1, 1, false) := by kernel_rfl
instance jfl90_1 : Tfl Try.prog 90 1 1 1 false := ⟨fl90_1⟩
theorem pa90 : plA Try.prog 90 = some [(0, 1), (1, 1)] := by kernel_rfl
instance jpl90 : Tpl Try.prog 90 [(0, 1), (1, 1)] := ⟨pa90⟩
theorem sz97 : szT Try.prog 97 = some 1 := by kernel_rfl
theorem by97 : byT Try.prog 97 = some 8 := by kernel_rfl
theorem ag97 : aggT Try.prog 97 = some false := by kernel_rfl
instance jsz97 : Tsz Try.prog 97 1 := ⟨sz97⟩
instance jby97 : Tby Try.prog 97 8 := ⟨by97⟩
instance jag97 : Tag Try.prog 97 false := ⟨ag97⟩
instance jik97 : Tik Try.prog 97 .u64 := ⟨Try.underlying97⟩
theorem ze97 : zeroA Try.prog 97 = some (.i .u64 0) := by kernel_rfl
instance jze97 : Tze Try.prog 97 (.i .u64 0) := ⟨ze97⟩
theorem sz104 : szT Try.prog 104 = some 1 := by kernel_rfl
theorem by104 : byT Try.prog 104 = some 8 := by kernel_rfl
theorem ag104 : aggT Try.prog 104 = some false := by kernel_rfl
instance jsz104 : Tsz Try.prog 104 1 := ⟨sz104⟩
instance jby104 : Tby Try.prog 104 8 := ⟨by104⟩
instance jag104 : Tag Try.prog 104 false := ⟨ag104⟩
instance jik104 : Tik Try.prog 104 .i64 := ⟨Try.underlying104⟩
theorem ze104 : zeroA Try.prog 104 = some (.i .i64 0) := by kernel_rfl
instance jze104 : Tze Try.prog 104 (.i .i64 0) := ⟨ze104⟩
theorem sz111 : szT Try.prog 111 = some 1 := by kernel_rfl
theorem by111 : byT Try.prog 111 = some 4 := by kernel_rfl
theorem ag111 : aggT Try.prog 111 = some false := by kernel_rfl
instance jsz111 : Tsz Try.prog 111 1 := ⟨sz111⟩
instance jby111 : Tby Try.prog 111 4 := ⟨by111⟩
instance jag111 : Tag Try.prog 111 false := ⟨ag111⟩
instance jik111 : Tik Try.prog 111 .u32 := ⟨Try.underlying111⟩
theorem ze111 : zeroA Try.prog 111 = some (.i .u32 0) := by kernel_rfl
instance jze111 : Tze Try.prog 111 (.i .u32 0) := ⟨ze111⟩
theorem sz113 : szT Try.prog 113 = some 1 := by kernel_rfl
theorem by113 : byT Try.prog 113 = some 8 := by kernel_rfl
theorem ag113 : aggT Try.prog 113 = some false := by kernel_rfl
instance jsz113 : Tsz Try.prog 113 1 := ⟨sz113⟩
instance jby113 : Tby Try.prog 113 8 := ⟨by113⟩
instance jag113 : Tag Try.prog 113 false := ⟨ag113⟩
instance jik113 : Tik Try.prog 113 .u64 := ⟨Try.underlying113⟩
theorem ze113 : zeroA Try.prog 113 = some (.i .u64 0) := by kernel_rfl
instance jze113 : Tze Try.prog 113 (.i .u64 0) := ⟨ze113⟩
theorem sz117 : szT Try.prog 117 = some 1 := by kernel_rfl
theorem by117 : byT Try.prog 117 = some 8 := by kernel_rfl
theorem ag117 : aggT Try.prog 117 = some false := by kernel_rfl
instance jsz117 : Tsz Try.prog 117 1 := ⟨sz117⟩
instance jby117 : Tby Try.prog 117 8 := ⟨by117⟩
instance jag117 : Tag Try.prog 117 false := ⟨ag117⟩
theorem ze117 : zeroA Try.prog 117 = some .np := by kernel_rfl
instance jze117 : Tze Try.prog 117 (.np) := ⟨ze117⟩

/-- laws.szIntS -/
def c39 : IC :=
  (.seq
  (.reg [
    ⟨some 4, .assign (.const (.int .i64 0)), none⟩])
  (.seq
  (.reg [
    ⟨some 5, .move (.tmp 1), none⟩,
    ⟨some 6, .move (.tmp 0), none⟩,
    ⟨some 7, .call { callee := .builtin .len, args := #[.tmp 6], argTypes := #[31] }, none⟩,
    ⟨some 8, .binOp .sub 3 (.tmp 5) (.tmp 7) 3, none⟩,
    ⟨some 1, .assign (.tmp 8), none⟩])
  (.seq
  (.seq
  (.reg [
    ⟨some 9, .move (.tmp 1), none⟩,
    ⟨some 10, .binOp .lss 3 (.tmp 9) (.const (.int .i64 0)) 3, none⟩])
  (.cond (.tmp 10)
    (.seq
    (.reg [
      ⟨some 4, .assign (.const (.int .i64 (-1))), none⟩])
    .ret)
    .skip))
  (.seq
  (.reg [
    ⟨some 11, .move (.tmp 1), none⟩,
    ⟨some 4, .assign (.tmp 11), none⟩])
  .ret))))
theorem hd39 : Try.f39.body.map dec = some c39 := by kernel_rfl
theorem e39 {R : AV → AH → Prop} {h : AH} (x0 x1 : AV) (H : h.wf → AI Try.prog c39 (RetQ Try.prog [.tmp 4] R) [x0, x1, un, un, un, un, un, un, un, un, un, un] h) : AC Try.prog 39 [x0, x1] h R :=
  AC_of' (rs := [.tmp 4]) Try.func39 (by kernel_rfl) hd39 Try.ntmps39 rfl H

/-- laws.szIntSS -/
def c10 : IC :=
  (.seq
  (.reg [
    ⟨some 4, .assign (.const (.int .i64 0)), none⟩])
  (.seq
  (.reg [
    ⟨some 6, .move (.tmp 1), none⟩,
    ⟨some 7, .move (.tmp 0), none⟩,
    ⟨some 8, .call { callee := .builtin .len, args := #[.tmp 7], argTypes := #[22] }, none⟩,
    ⟨some 9, .binOp .sub 3 (.tmp 6) (.tmp 8) 3, none⟩,
    ⟨some 1, .assign (.tmp 9), none⟩])
  (.seq
  (.seq
  (.reg [
    ⟨some 10, .move (.tmp 1), none⟩,
    ⟨some 11, .binOp .lss 3 (.tmp 10) (.const (.int .i64 0)) 3, none⟩])
  (.cond (.tmp 11)
    (.seq
    (.reg [
      ⟨some 4, .assign (.const (.int .i64 (-1))), none⟩])
    .ret)
    .skip))
  (.seq
  (.seq
  (.reg [
    ⟨some 5, .assign (.const (.int .i64 0)), none⟩])
  (.block 0
  (.loop
    (.seq
    (.seq
    (.reg [
      ⟨some 12, .move (.tmp 5), none⟩,
      ⟨some 13, .move (.tmp 0), none⟩,
      ⟨some 14, .call { callee := .builtin .len, args := #[.tmp 13], argTypes := #[22] }, none⟩,
      ⟨some 15, .binOp .lss 3 (.tmp 12) (.tmp 14) 3, none⟩])
    (.cond (.tmp 15)
      .skip
      (.exit 0)))
    (.seq
    (.block 1
    (.seq
    (.reg [
      ⟨some 18, .move (.tmp 0), none⟩,
      ⟨some 19, .move (.tmp 5), none⟩,
      ⟨some 20, .indexAddr 22 (.tmp 18) (.tmp 19), none⟩,
      ⟨some 21, .load 31 (.tmp 20), none⟩,
      ⟨some 22, .move (.tmp 1), none⟩,
      ⟨some 23, .call { callee := .value (.func 39), args := #[.tmp 21, .tmp 22], argTypes := #[31, 3] }, none⟩,
      ⟨some 1, .assign (.tmp 23), none⟩])
    (.seq
    (.reg [
      ⟨some 24, .move (.tmp 1), none⟩,
      ⟨some 25, .binOp .lss 3 (.tmp 24) (.const (.int .i64 0)) 3, none⟩])
    (.cond (.tmp 25)
      (.seq
      (.reg [
        ⟨some 4, .assign (.const (.int .i64 (-1))), none⟩])
      .ret)
      .skip))))
    (.reg [
      ⟨some 16, .move (.tmp 5), none⟩,
      ⟨some 17, .binOp .add 3 (.tmp 16) (.const (.int .i64 1)) 3, none⟩,
      ⟨some 5, .assign (.tmp 17), none⟩]))))))
  (.seq
  (.reg [
    ⟨some 26, .move (.tmp 1), none⟩,
    ⟨some 4, .assign (.tmp 26), none⟩])
  .ret)))))
theorem hd10 : Try.f10.body.map dec = some c10 := by kernel_rfl
theorem e10 {R : AV → AH → Prop} {h : AH} (x0 x1 : AV) (H : h.wf → AI Try.prog c10 (RetQ Try.prog [.tmp 4] R) [x0, x1, un, un, un, un, un, un, un, un, un, un, un, un, un, un, un, un, un, un, un, un, un, un, un, un, un] h) : AC Try.prog 10 [x0, x1] h R :=
  AC_of' (rs := [.tmp 4]) Try.func10 (by kernel_rfl) hd10 Try.ntmps10 rfl H

/-- laws.toIntS -/
def c35 : IC :=
  (.seq
  (.reg [
    ⟨some 2, .assign (.const (.slice none 0 0)), none⟩])
  (.seq
  (.reg [
    ⟨some 5, .move (.tmp 0), none⟩,
    ⟨some 6, .call { callee := .builtin .len, args := #[.tmp 5], argTypes := #[31] }, none⟩,
    ⟨some 7, .makeSlice 31 (.tmp 6) (.tmp 6), none⟩,
    ⟨some 3, .assign (.tmp 7), none⟩])
  (.seq
  (.seq
  (.reg [
    ⟨some 4, .assign (.const (.int .i64 0)), none⟩])
  (.block 0
  (.loop
    (.seq
    (.seq
    (.reg [
      ⟨some 8, .move (.tmp 4), none⟩,
      ⟨some 9, .move (.tmp 0), none⟩,
      ⟨some 10, .call { callee := .builtin .len, args := #[.tmp 9], argTypes := #[31] }, none⟩,
      ⟨some 11, .binOp .lss 3 (.tmp 8) (.tmp 10) 3, none⟩])
    (.cond (.tmp 11)
      .skip
      (.exit 0)))
    (.seq
    (.block 1
    (.reg [
      ⟨some 14, .move (.tmp 3), none⟩,
      ⟨some 15, .move (.tmp 4), none⟩,
      ⟨some 16, .move (.tmp 0), none⟩,
      ⟨some 17, .move (.tmp 4), none⟩,
      ⟨some 18, .indexAddr 31 (.tmp 16) (.tmp 17), none⟩,
      ⟨some 19, .load 3 (.tmp 18), none⟩,
      ⟨some 20, .indexAddr 31 (.tmp 14) (.tmp 15), none⟩,
      ⟨none, .store 3 (.tmp 20) (.tmp 19), none⟩]))
    (.reg [
      ⟨some 12, .move (.tmp 4), none⟩,
      ⟨some 13, .binOp .add 3 (.tmp 12) (.const (.int .i64 1)) 3, none⟩,
      ⟨some 4, .assign (.tmp 13), none⟩]))))))
  (.seq
  (.reg [
    ⟨some 21, .move (.tmp 3), none⟩,
    ⟨some 2, .assign (.tmp 21), none⟩])
  .ret))))
theorem hd35 : Try.f35.body.map dec = some c35 := by kernel_rfl
theorem e35 {R : AV → AH → Prop} {h : AH} (x0 : AV) (H : h.wf → AI Try.prog c35 (RetQ Try.prog [.tmp 2] R) [x0, un, un, un, un, un, un, un, un, un, un, un, un, un, un, un, un, un, un, un, un, un] h) : AC Try.prog 35 [x0] h R :=
  AC_of' (rs := [.tmp 2]) Try.func35 (by kernel_rfl) hd35 Try.ntmps35 rfl H

/-- laws.toIntSS -/
def c12 : IC :=
  (.seq
  (.reg [
    ⟨some 2, .assign (.const (.slice none 0 0)), none⟩])
  (.seq
  (.reg [
    ⟨some 5, .move (.tmp 0), none⟩,
    ⟨some 6, .call { callee := .builtin .len, args := #[.tmp 5], argTypes := #[22] }, none⟩,
    ⟨some 7, .makeSlice 22 (.tmp 6) (.tmp 6), none⟩,
    ⟨some 3, .assign (.tmp 7), none⟩])
  (.seq
  (.seq
  (.reg [
    ⟨some 4, .assign (.const (.int .i64 0)), none⟩])
  (.block 0
  (.loop
    (.seq
    (.seq
    (.reg [
      ⟨some 8, .move (.tmp 4), none⟩,
      ⟨some 9, .move (.tmp 0), none⟩,
      ⟨some 10, .call { callee := .builtin .len, args := #[.tmp 9], argTypes := #[22] }, none⟩,
      ⟨some 11, .binOp .lss 3 (.tmp 8) (.tmp 10) 3, none⟩])
    (.cond (.tmp 11)
      .skip
      (.exit 0)))
    (.seq
    (.block 1
    (.reg [
      ⟨some 14, .move (.tmp 3), none⟩,
      ⟨some 15, .move (.tmp 4), none⟩,
      ⟨some 16, .move (.tmp 0), none⟩,
      ⟨some 17, .move (.tmp 4), none⟩,
      ⟨some 18, .indexAddr 22 (.tmp 16) (.tmp 17), none⟩,
      ⟨some 19, .load 31 (.tmp 18), none⟩,
      ⟨some 20, .call { callee := .value (.func 35), args := #[.tmp 19], argTypes := #[31] }, none⟩,
      ⟨some 21, .indexAddr 22 (.tmp 14) (.tmp 15), none⟩,
      ⟨none, .store 31 (.tmp 21) (.tmp 20), none⟩]))
    (.reg [
      ⟨some 12, .move (.tmp 4), none⟩,
      ⟨some 13, .binOp .add 3 (.tmp 12) (.const (.int .i64 1)) 3, none⟩,
      ⟨some 4, .assign (.tmp 13), none⟩]))))))
  (.seq
  (.reg [
    ⟨some 22, .move (.tmp 3), none⟩,
    ⟨some 2, .assign (.tmp 22), none⟩])
  .ret))))
theorem hd12 : Try.f12.body.map dec = some c12 := by kernel_rfl
theorem e12 {R : AV → AH → Prop} {h : AH} (x0 : AV) (H : h.wf → AI Try.prog c12 (RetQ Try.prog [.tmp 2] R) [x0, un, un, un, un, un, un, un, un, un, un, un, un, un, un, un, un, un, un, un, un, un, un] h) : AC Try.prog 12 [x0] h R :=
  AC_of' (rs := [.tmp 2]) Try.func12 (by kernel_rfl) hd12 Try.ntmps12 rfl H

noncomputable def rg36_0 : Array Oper := rawAt Try.f36 0
/-- laws.eqIntS -/
noncomputable def c36 : IC :=
  (.seq
  (.reg [
    ⟨some 4, .assign (.const (.bool false)), none⟩])
  (.seq
  (.seq
  (.reg [
    ⟨some 6, .move (.tmp 0), none⟩,
    ⟨some 7, .call { callee := .builtin .len, args := #[.tmp 6], argTypes := #[31] }, none⟩,
    ⟨some 8, .move (.tmp 1), none⟩,
    ⟨some 9, .call { callee := .builtin .len, args := #[.tmp 8], argTypes := #[31] }, none⟩,
    ⟨some 10, .binOp .neq 3 (.tmp 7) (.tmp 9) 3, none⟩])
  (.cond (.tmp 10)
    (.seq
    (.reg [
      ⟨some 4, .assign (.const (.bool false)), none⟩])
    .ret)
    .skip))
  (.seq
  (.seq
  (.reg [
    ⟨some 5, .assign (.const (.int .i64 0)), none⟩])
  (.block 0
  (.loop
    (.seq
    (.seq
    (.reg [
      ⟨some 11, .move (.tmp 5), none⟩,
      ⟨some 12, .move (.tmp 0), none⟩,
      ⟨some 13, .call { callee := .builtin .len, args := #[.tmp 12], argTypes := #[31] }, none⟩,
      ⟨some 14, .binOp .lss 3 (.tmp 11) (.tmp 13) 3, none⟩])
    (.cond (.tmp 14)
      .skip
      (.exit 0)))
    (.seq
    (.block 1
    (.seq
    (.raw (.region 6 rg36_0 true))
    (.cond (.tmp 25)
      (.seq
      (.reg [
        ⟨some 4, .assign (.const (.bool false)), none⟩])
      .ret)
      .skip)))
    (.reg [
      ⟨some 15, .move (.tmp 5), none⟩,
      ⟨some 16, .binOp .add 3 (.tmp 15) (.const (.int .i64 1)) 3, none⟩,
      ⟨some 5, .assign (.tmp 16), none⟩]))))))
  (.seq
  (.reg [
    ⟨some 4, .assign (.const (.bool true)), none⟩])
  .ret))))
theorem hd36 : Try.f36.body.map dec = some c36 := by kernel_rfl
theorem e36 {R : AV → AH → Prop} {h : AH} (x0 x1 : AV) (H : h.wf → AI Try.prog c36 (RetQ Try.prog [.tmp 4] R) [x0, x1, un, un, un, un, un, un, un, un, un, un, un, un, un, un, un, un, un, un, un, un, un, un, un, un] h) : AC Try.prog 36 [x0, x1] h R :=
  AC_of' (rs := [.tmp 4]) Try.func36 (by kernel_rfl) hd36 Try.ntmps36 rfl H
theorem dz36_0 {h0 : AH} {L : List It} {Q : Exit → List AV → List It → Prop} {a : List AV} {id : Nat} (H : LX Try.prog ⟨[], []⟩ h0 L L (.c (⟨some 17, .move (.tmp 0), none⟩, .p) <| .c (⟨some 18, .move (.tmp 5), none⟩, .p) <| .c (⟨some 19, .indexAddr 31 (.tmp 17) (.tmp 18), none⟩, .p) <| .c (⟨some 20, .load 3 (.tmp 19), none⟩, .l) <| .c (⟨some 21, .move (.tmp 1), none⟩, .p) <| .c (⟨some 22, .move (.tmp 5), none⟩, .p) <| .c (⟨some 23, .indexAddr 31 (.tmp 21) (.tmp 22), none⟩, .p) <| .c (⟨some 24, .load 3 (.tmp 23), none⟩, .l) <| .c (⟨some 25, .binOp .neq 3 (.tmp 20) (.tmp 24) 3, none⟩, .p) <| .n) Q a) : LI Try.prog h0 L (.raw (.region id rg36_0 true)) Q a :=
  LI_draw (.c (0, .p) <| .c (1, .p) <| .c (2, .p) <| .c (3, .l) <| .c (4, .p) <| .c (5, .p) <| .c (6, .p) <| .c (7, .l) <| .c (8, .p) <| .n) [] (by kernel_rfl) (by kernel_rfl) (by kernel_rfl) H
theorem dr36_0 (m : Nat) {Q : Exit → List AV → AH → Prop} {a : List AV} {h : AH} {id : Nat} (H : AX Try.prog m h [(⟨some 17, .move (.tmp 0), none⟩, true),
  (⟨some 18, .move (.tmp 5), none⟩, true),
  (⟨some 19, .indexAddr 31 (.tmp 17) (.tmp 18), none⟩, true),
  (⟨some 20, .load 3 (.tmp 19), none⟩, true),
  (⟨some 21, .move (.tmp 1), none⟩, true),
  (⟨some 22, .move (.tmp 5), none⟩, true),
  (⟨some 23, .indexAddr 31 (.tmp 21) (.tmp 22), none⟩, true),
  (⟨some 24, .load 3 (.tmp 23), none⟩, true),
  (⟨some 25, .binOp .neq 3 (.tmp 20) (.tmp 24) 3, none⟩, true)] (fun a' h' => Q .normal a' h') a h) : AI Try.prog (.raw (.region id rg36_0 true)) Q a h :=
  AI_draw [(0, true), (1, true), (2, true), (3, true), (4, true), (5, true), (6, true), (7, true), (8, true)] m (by kernel_rfl) (by kernel_rfl) (by kernel_rfl) H

noncomputable def rg14_0 : Array Oper := rawAt Try.f14 0
/-- laws.eqIntSS -/
noncomputable def c14 : IC :=
  (.seq
  (.reg [
    ⟨some 4, .assign (.const (.bool false)), none⟩])
  (.seq
  (.seq
  (.reg [
    ⟨some 6, .move (.tmp 0), none⟩,
    ⟨some 7, .call { callee := .builtin .len, args := #[.tmp 6], argTypes := #[22] }, none⟩,
    ⟨some 8, .move (.tmp 1), none⟩,
    ⟨some 9, .call { callee := .builtin .len, args := #[.tmp 8], argTypes := #[22] }, none⟩,
    ⟨some 10, .binOp .neq 3 (.tmp 7) (.tmp 9) 3, none⟩])
  (.cond (.tmp 10)
    (.seq
    (.reg [
      ⟨some 4, .assign (.const (.bool false)), none⟩])
    .ret)
    .skip))
  (.seq
  (.seq
  (.reg [
    ⟨some 5, .assign (.const (.int .i64 0)), none⟩])
  (.block 0
  (.loop
    (.seq
    (.seq
    (.reg [
      ⟨some 11, .move (.tmp 5), none⟩,
      ⟨some 12, .move (.tmp 0), none⟩,
      ⟨some 13, .call { callee := .builtin .len, args := #[.tmp 12], argTypes := #[22] }, none⟩,
      ⟨some 14, .binOp .lss 3 (.tmp 11) (.tmp 13) 3, none⟩])
    (.cond (.tmp 14)
      .skip
      (.exit 0)))
    (.seq
    (.block 1
    (.seq
    (.raw (.region 6 rg14_0 true))
    (.cond (.tmp 26)
      (.seq
      (.reg [
        ⟨some 4, .assign (.const (.bool false)), none⟩])
      .ret)
      .skip)))
    (.reg [
      ⟨some 15, .move (.tmp 5), none⟩,
      ⟨some 16, .binOp .add 3 (.tmp 15) (.const (.int .i64 1)) 3, none⟩,
      ⟨some 5, .assign (.tmp 16), none⟩]))))))
  (.seq
  (.reg [
    ⟨some 4, .assign (.const (.bool true)), none⟩])
  .ret))))
theorem hd14 : Try.f14.body.map dec = some c14 := by kernel_rfl
theorem e14 {R : AV → AH → Prop} {h : AH} (x0 x1 : AV) (H : h.wf → AI Try.prog c14 (RetQ Try.prog [.tmp 4] R) [x0, x1, un, un, un, un, un, un, un, un, un, un, un, un, un, un, un, un, un, un, un, un, un, un, un, un, un] h) : AC Try.prog 14 [x0, x1] h R :=
  AC_of' (rs := [.tmp 4]) Try.func14 (by kernel_rfl) hd14 Try.ntmps14 rfl H
theorem dz14_0 {h0 : AH} {L : List It} {Q : Exit → List AV → List It → Prop} {a : List AV} {id : Nat} (H : LX Try.prog ⟨[], []⟩ h0 L L (.c (⟨some 17, .move (.tmp 0), none⟩, .p) <| .c (⟨some 18, .move (.tmp 5), none⟩, .p) <| .c (⟨some 19, .indexAddr 22 (.tmp 17) (.tmp 18), none⟩, .p) <| .c (⟨some 20, .load 31 (.tmp 19), none⟩, .l) <| .c (⟨some 21, .move (.tmp 1), none⟩, .p) <| .c (⟨some 22, .move (.tmp 5), none⟩, .p) <| .c (⟨some 23, .indexAddr 22 (.tmp 21) (.tmp 22), none⟩, .p) <| .c (⟨some 24, .load 31 (.tmp 23), none⟩, .l) <| .c (⟨some 25, .call { callee := .value (.func 36), args := #[.tmp 20, .tmp 24], argTypes := #[31, 31] }, none⟩, .e) <| .c (⟨some 26, .unOp .not 4 (.tmp 25), none⟩, .p) <| .n) Q a) : LI Try.prog h0 L (.raw (.region id rg14_0 true)) Q a :=
  LI_draw (.c (0, .p) <| .c (1, .p) <| .c (2, .p) <| .c (3, .l) <| .c (4, .p) <| .c (5, .p) <| .c (6, .p) <| .c (7, .l) <| .c (8, .e) <| .c (9, .p) <| .n) [] (by kernel_rfl) (by kernel_rfl) (by kernel_rfl) H
theorem dy14_0 {h0 : AH} {L : List It} {Q : Exit → List AV → List It → Prop} {a : List AV} {id : Nat} (H : LX Try.prog ⟨[8], []⟩ h0 L L (.c (⟨some 17, .move (.tmp 0), none⟩, .p) <| .c (⟨some 18, .move (.tmp 5), none⟩, .p) <| .c (⟨some 19, .indexAddr 22 (.tmp 17) (.tmp 18), none⟩, .p) <| .c (⟨some 20, .load 31 (.tmp 19), none⟩, .l) <| .c (⟨some 21, .move (.tmp 1), none⟩, .p) <| .c (⟨some 22, .move (.tmp 5), none⟩, .p) <| .c (⟨some 23, .indexAddr 22 (.tmp 21) (.tmp 22), none⟩, .p) <| .c (⟨some 24, .load 31 (.tmp 23), none⟩, .l) <| .c (⟨some 25, .call { callee := .value (.func 36), args := #[.tmp 20, .tmp 24], argTypes := #[31, 31] }, none⟩, .f) <| .c (⟨some 26, .unOp .not 4 (.tmp 25), none⟩, .p) <| .n) Q a) : LI Try.prog h0 L (.raw (.region id rg14_0 true)) Q a :=
  LI_draw (.c (0, .p) <| .c (1, .p) <| .c (2, .p) <| .c (3, .l) <| .c (4, .p) <| .c (5, .p) <| .c (6, .p) <| .c (7, .l) <| .c (8, .f) <| .c (9, .p) <| .n) [8] (by kernel_rfl) (by kernel_rfl) (by kernel_rfl) H
theorem dr14_0 (m : Nat) {Q : Exit → List AV → AH → Prop} {a : List AV} {h : AH} {id : Nat} (H : AX Try.prog m h [(⟨some 17, .move (.tmp 0), none⟩, true),
  (⟨some 18, .move (.tmp 5), none⟩, true),
  (⟨some 19, .indexAddr 22 (.tmp 17) (.tmp 18), none⟩, true),
  (⟨some 20, .load 31 (.tmp 19), none⟩, true),
  (⟨some 21, .move (.tmp 1), none⟩, true),
  (⟨some 22, .move (.tmp 5), none⟩, true),
  (⟨some 23, .indexAddr 22 (.tmp 21) (.tmp 22), none⟩, true),
  (⟨some 24, .load 31 (.tmp 23), none⟩, true),
  (⟨some 25, .call { callee := .value (.func 36), args := #[.tmp 20, .tmp 24], argTypes := #[31, 31] }, none⟩, false),
  (⟨some 26, .unOp .not 4 (.tmp 25), none⟩, true)] (fun a' h' => Q .normal a' h') a h) : AI Try.prog (.raw (.region id rg14_0 true)) Q a h :=
  AI_draw [(0, true), (1, true), (2, true), (3, true), (4, true), (5, true), (6, true), (7, true), (8, false), (9, true)] m (by kernel_rfl) (by kernel_rfl) (by kernel_rfl) H

/-- laws.szStepS -/
def c57 : IC :=
  (.seq
  (.reg [
    ⟨some 4, .assign (.const (.int .i64 0)), none⟩])
  (.seq
  (.reg [
    ⟨some 5, .move (.tmp 1), none⟩,
    ⟨some 6, .move (.tmp 0), none⟩,
    ⟨some 7, .call { callee := .builtin .len, args := #[.tmp 6], argTypes := #[43] }, none⟩,
    ⟨some 8, .binOp .sub 3 (.tmp 5) (.tmp 7) 3, none⟩,
    ⟨some 1, .assign (.tmp 8), none⟩])
  (.seq
  (.seq
  (.reg [
    ⟨some 9, .move (.tmp 1), none⟩,
    ⟨some 10, .binOp .lss 3 (.tmp 9) (.const (.int .i64 0)) 3, none⟩])
  (.cond (.tmp 10)
    (.seq
    (.reg [
      ⟨some 4, .assign (.const (.int .i64 (-1))), none⟩])
    .ret)
    .skip))
  (.seq
  (.reg [
    ⟨some 11, .move (.tmp 1), none⟩,
    ⟨some 4, .assign (.tmp 11), none⟩])
  .ret))))
theorem hd57 : Try.f57.body.map dec = some c57 := by kernel_rfl
theorem e57 {R : AV → AH → Prop} {h : AH} (x0 x1 : AV) (H : h.wf → AI Try.prog c57 (RetQ Try.prog [.tmp 4] R) [x0, x1, un, un, un, un, un, un, un, un, un, un] h) : AC Try.prog 57 [x0, x1] h R :=
  AC_of' (rs := [.tmp 4]) Try.func57 (by kernel_rfl) hd57 Try.ntmps57 rfl H

/-- laws.szPlan -/
def c26 : IC :=
  (.seq
  (.reg [
    ⟨some 2, .box 45 (.tmp 0), none⟩,
    ⟨some 4, .assign (.const (.int .i64 0)), none⟩])
  (.seq
  (.reg [
    ⟨some 5, .fieldAddr 45 (.tmp 2) 1, none⟩,
    ⟨some 6, .load 43 (.tmp 5), none⟩,
    ⟨some 7, .move (.tmp 1), none⟩,
    ⟨some 8, .call { callee := .value (.func 57), args := #[.tmp 6, .tmp 7], argTypes := #[43, 3] }, none⟩,
    ⟨some 1, .assign (.tmp 8), none⟩])
  (.seq
  (.seq
  (.reg [
    ⟨some 9, .move (.tmp 1), none⟩,
    ⟨some 10, .binOp .lss 3 (.tmp 9) (.const (.int .i64 0)) 3, none⟩])
  (.cond (.tmp 10)
    (.seq
    (.reg [
      ⟨some 4, .assign (.const (.int .i64 (-1))), none⟩])
    .ret)
    .skip))
  (.seq
  (.reg [
    ⟨some 11, .fieldAddr 45 (.tmp 2) 2, none⟩,
    ⟨some 12, .load 31 (.tmp 11), none⟩,
    ⟨some 13, .move (.tmp 1), none⟩,
    ⟨some 14, .call { callee := .value (.func 39), args := #[.tmp 12, .tmp 13], argTypes := #[31, 3] }, none⟩,
    ⟨some 1, .assign (.tmp 14), none⟩])
  (.seq
  (.seq
  (.reg [
    ⟨some 15, .move (.tmp 1), none⟩,
    ⟨some 16, .binOp .lss 3 (.tmp 15) (.const (.int .i64 0)) 3, none⟩])
  (.cond (.tmp 16)
    (.seq
    (.reg [
      ⟨some 4, .assign (.const (.int .i64 (-1))), none⟩])
    .ret)
    .skip))
  (.seq
  (.reg [
    ⟨some 17, .move (.tmp 1), none⟩,
    ⟨some 4, .assign (.tmp 17), none⟩])
  .ret))))))
theorem hd26 : Try.f26.body.map dec = some c26 := by kernel_rfl
theorem e26 {R : AV → AH → Prop} {h : AH} (x0 x1 : AV) (H : h.wf → AI Try.prog c26 (RetQ Try.prog [.tmp 4] R) [x0, x1, un, un, un, un, un, un, un, un, un, un, un, un, un, un, un, un] h) : AC Try.prog 26 [x0, x1] h R :=
  AC_of' (rs := [.tmp 4]) Try.func26 (by kernel_rfl) hd26 Try.ntmps26 rfl H

/-- spec.l1In -/
def c76 : IC :=
  (.seq
  (.reg [
    ⟨some 6, .assign (.const (.bool false)), none⟩])
  (.seq
  (.reg [
    ⟨some 7, .move (.tmp 0), none⟩,
    ⟨some 8, .move (.tmp 1), none⟩,
    ⟨some 9, .binOp .geq 3 (.tmp 7) (.tmp 8) 3, none⟩,
    ⟨some 10, .move (.tmp 9), none⟩,
    ⟨some 11, .move (.tmp 0), some (10, true)⟩,
    ⟨some 12, .move (.tmp 2), some (10, true)⟩,
    ⟨some 13, .binOp .leq 3 (.tmp 11) (.tmp 12) 3, some (10, true)⟩,
    ⟨some 14, .pick (.tmp 10) (.tmp 13) (.const (.bool false)), none⟩,
    ⟨some 6, .assign (.tmp 14), none⟩])
  .ret))
theorem hd76 : Try.f76.body.map dec = some c76 := by kernel_rfl
theorem e76 {R : AV → AH → Prop} {h : AH} (x0 x1 x2 : AV) (H : h.wf → AI Try.prog c76 (RetQ Try.prog [.tmp 6] R) [x0, x1, x2, un, un, un, un, un, un, un, un, un, un, un, un] h) : AC Try.prog 76 [x0, x1, x2] h R :=
  AC_of' (rs := [.tmp 6]) Try.func76 (by kernel_rfl) hd76 Try.ntmps76 rfl H

/-- spec.l1Has -/
def c86 : IC :=
  (.seq
  (.reg [
    ⟨some 4, .assign (.const (.bool false)), none⟩])
  (.seq
  (.seq
  (.reg [
    ⟨some 7, .move (.tmp 0), none⟩,
    ⟨some 8, .call { callee := .builtin .len, args := #[.tmp 7], argTypes := #[31] }, none⟩,
    ⟨some 9, .move (.const (.int .i64 0)), none⟩])
  (.block 0
  (.loop
    (.seq
    (.reg [
      ⟨some 10, .binOp .lss 3 (.tmp 9) (.tmp 8) 3, none⟩])
    (.seq
    (.cond (.tmp 10)
      .skip
      (.exit 0))
    (.seq
    (.block 1
    (.seq
    (.reg [
      ⟨some 11, .indexAddr 31 (.tmp 7) (.tmp 9), none⟩,
      ⟨some 12, .load 3 (.tmp 11), none⟩,
      ⟨some 6, .assign (.tmp 12), none⟩])
    (.seq
    (.reg [
      ⟨some 13, .move (.tmp 6), none⟩,
      ⟨some 14, .move (.tmp 1), none⟩,
      ⟨some 15, .binOp .eql 3 (.tmp 13) (.tmp 14) 3, none⟩])
    (.cond (.tmp 15)
      (.seq
      (.reg [
        ⟨some 4, .assign (.const (.bool true)), none⟩])
      .ret)
      .skip))))
    (.reg [
      ⟨some 16, .binOp .add 3 (.tmp 9) (.const (.int .i64 1)) 3, none⟩,
      ⟨some 9, .move (.tmp 16), none⟩])))))))
  (.seq
  (.reg [
    ⟨some 4, .assign (.const (.bool false)), none⟩])
  .ret)))
theorem hd86 : Try.f86.body.map dec = some c86 := by kernel_rfl
theorem e86 {R : AV → AH → Prop} {h : AH} (x0 x1 : AV) (H : h.wf → AI Try.prog c86 (RetQ Try.prog [.tmp 4] R) [x0, x1, un, un, un, un, un, un, un, un, un, un, un, un, un, un, un] h) : AC Try.prog 86 [x0, x1] h R :=
  AC_of' (rs := [.tmp 4]) Try.func86 (by kernel_rfl) hd86 Try.ntmps86 rfl H

/-- spec.moPermutation -/
def c67 : IC :=
  (.seq
  (.reg [
    ⟨some 2, .assign (.const (.bool false)), none⟩])
  (.seq
  (.seq
  (.reg [
    ⟨some 5, .move (.tmp 0), none⟩,
    ⟨some 6, .call { callee := .builtin .len, args := #[.tmp 5], argTypes := #[31] }, none⟩,
    ⟨some 7, .move (.const (.int .i64 0)), none⟩])
  (.block 0
  (.loop
    (.seq
    (.reg [
      ⟨some 8, .binOp .lss 3 (.tmp 7) (.tmp 6) 3, none⟩])
    (.seq
    (.cond (.tmp 8)
      .skip
      (.exit 0))
    (.seq
    (.block 1
    (.seq
    (.reg [
      ⟨some 9, .move (.tmp 7), none⟩,
      ⟨some 10, .indexAddr 31 (.tmp 5) (.tmp 7), none⟩,
      ⟨some 11, .load 3 (.tmp 10), none⟩,
      ⟨some 3, .assign (.tmp 9), none⟩,
      ⟨some 4, .assign (.tmp 11), none⟩])
    (.seq
    (.reg [
      ⟨some 12, .move (.tmp 4), none⟩,
      ⟨some 13, .move (.tmp 0), none⟩,
      ⟨some 14, .call { callee := .builtin .len, args := #[.tmp 13], argTypes := #[31] }, none⟩,
      ⟨some 15, .binOp .sub 3 (.tmp 14) (.const (.int .i64 1)) 3, none⟩,
      ⟨some 16, .call { callee := .value (.func 76), args := #[.tmp 12, .const (.int .i64 0), .tmp 15], argTypes := #[3, 3, 3] }, none⟩,
      ⟨some 17, .unOp .not 4 (.tmp 16), none⟩,
      ⟨some 18, .move (.tmp 17), none⟩,
      ⟨some 19, .move (.tmp 0), some (18, false)⟩,
      ⟨some 20, .move (.tmp 3), some (18, false)⟩,
      ⟨some 21, .slice 31 (.tmp 19) none (some (.tmp 20)) none, some (18, false)⟩,
      ⟨some 22, .move (.tmp 4), some (18, false)⟩,
      ⟨some 23, .call { callee := .value (.func 86), args := #[.tmp 21, .tmp 22], argTypes := #[31, 3] }, some (18, false)⟩,
      ⟨some 24, .pick (.tmp 18) (.const (.bool true)) (.tmp 23), none⟩])
    (.cond (.tmp 24)
      (.seq
      (.reg [
        ⟨some 2, .assign (.const (.bool false)), none⟩])
      .ret)
      .skip))))
    (.reg [
      ⟨some 25, .binOp .add 3 (.tmp 7) (.const (.int .i64 1)) 3, none⟩,
      ⟨some 7, .move (.tmp 25), none⟩])))))))
  (.seq
  (.reg [
    ⟨some 26, .move (.tmp 0), none⟩,
    ⟨some 27, .call { callee := .builtin .len, args := #[.tmp 26], argTypes := #[31] }, none⟩,
    ⟨some 28, .call { callee := .value (.func 76), args := #[.tmp 27, .const (.int .i64 1), .const (.int .i64 8)], argTypes := #[3, 3, 3] }, none⟩,
    ⟨some 2, .assign (.tmp 28), none⟩])
  .ret)))
theorem hd67 : Try.f67.body.map dec = some c67 := by kernel_rfl
theorem e67 {R : AV → AH → Prop} {h : AH} (x0 : AV) (H : h.wf → AI Try.prog c67 (RetQ Try.prog [.tmp 2] R) [x0, un, un, un, un, un, un, un, un, un, un, un, un, un, un, un, un, un, un, un, un, un, un, un, un, un, un, un, un] h) : AC Try.prog 67 [x0] h R :=
  AC_of' (rs := [.tmp 2]) Try.func67 (by kernel_rfl) hd67 Try.ntmps67 rfl H

/-- spec.IsPermutation -/
def c34 : IC :=
  (.seq
  (.reg [
    ⟨some 2, .assign (.const (.bool false)), none⟩])
  (.seq
  (.reg [
    ⟨some 3, .move (.tmp 0), none⟩,
    ⟨some 4, .call { callee := .builtin .len, args := #[.tmp 3], argTypes := #[31] }, none⟩,
    ⟨some 5, .binOp .leq 3 (.tmp 4) (.const (.int .i64 8)) 3, none⟩,
    ⟨some 6, .move (.tmp 5), none⟩,
    ⟨some 7, .move (.tmp 0), some (6, true)⟩,
    ⟨some 8, .call { callee := .value (.func 67), args := #[.tmp 7], argTypes := #[31] }, some (6, true)⟩,
    ⟨some 9, .pick (.tmp 6) (.tmp 8) (.const (.bool false)), none⟩,
    ⟨some 2, .assign (.tmp 9), none⟩])
  .ret))
theorem hd34 : Try.f34.body.map dec = some c34 := by kernel_rfl
theorem e34 {R : AV → AH → Prop} {h : AH} (x0 : AV) (H : h.wf → AI Try.prog c34 (RetQ Try.prog [.tmp 2] R) [x0, un, un, un, un, un, un, un, un, un] h) : AC Try.prog 34 [x0] h R :=
  AC_of' (rs := [.tmp 2]) Try.func34 (by kernel_rfl) hd34 Try.ntmps34 rfl H

/-- spec.moAlike -/
def c40 : IC :=
  (.seq
  (.reg [
    ⟨some 2, .assign (.const (.bool false)), none⟩])
  (.seq
  (.seq
  (.reg [
    ⟨some 5, .move (.tmp 0), none⟩,
    ⟨some 6, .call { callee := .builtin .len, args := #[.tmp 5], argTypes := #[22] }, none⟩,
    ⟨some 7, .move (.const (.int .i64 0)), none⟩])
  (.block 0
  (.loop
    (.seq
    (.reg [
      ⟨some 8, .binOp .lss 3 (.tmp 7) (.tmp 6) 3, none⟩])
    (.seq
    (.cond (.tmp 8)
      .skip
      (.exit 0))
    (.seq
    (.block 1
    (.seq
    (.reg [
      ⟨some 9, .indexAddr 22 (.tmp 5) (.tmp 7), none⟩,
      ⟨some 10, .load 31 (.tmp 9), none⟩,
      ⟨some 4, .assign (.tmp 10), none⟩])
    (.seq
    (.reg [
      ⟨some 11, .move (.tmp 4), none⟩,
      ⟨some 12, .call { callee := .value (.func 34), args := #[.tmp 11], argTypes := #[31] }, none⟩,
      ⟨some 13, .unOp .not 4 (.tmp 12), none⟩,
      ⟨some 14, .move (.tmp 13), none⟩,
      ⟨some 15, .move (.tmp 4), some (14, false)⟩,
      ⟨some 16, .call { callee := .builtin .len, args := #[.tmp 15], argTypes := #[31] }, some (14, false)⟩,
      ⟨some 17, .move (.tmp 0), some (14, false)⟩,
      ⟨some 18, .indexAddr 22 (.tmp 17) (.const (.int .i64 0)), some (14, false)⟩,
      ⟨some 19, .load 31 (.tmp 18), some (14, false)⟩,
      ⟨some 20, .call { callee := .builtin .len, args := #[.tmp 19], argTypes := #[31] }, some (14, false)⟩,
      ⟨some 21, .binOp .neq 3 (.tmp 16) (.tmp 20) 3, some (14, false)⟩,
      ⟨some 22, .pick (.tmp 14) (.const (.bool true)) (.tmp 21), none⟩])
    (.cond (.tmp 22)
      (.seq
      (.reg [
        ⟨some 2, .assign (.const (.bool false)), none⟩])
      .ret)
      .skip))))
    (.reg [
      ⟨some 23, .binOp .add 3 (.tmp 7) (.const (.int .i64 1)) 3, none⟩,
      ⟨some 7, .move (.tmp 23), none⟩])))))))
  (.seq
  (.reg [
    ⟨some 24, .move (.tmp 0), none⟩,
    ⟨some 25, .call { callee := .builtin .len, args := #[.tmp 24], argTypes := #[22] }, none⟩,
    ⟨some 26, .binOp .leq 3 (.tmp 25) (.const (.int .i64 6)) 3, none⟩,
    ⟨some 2, .assign (.tmp 26), none⟩])
  .ret)))
theorem hd40 : Try.f40.body.map dec = some c40 := by kernel_rfl
theorem e40 {R : AV → AH → Prop} {h : AH} (x0 : AV) (H : h.wf → AI Try.prog c40 (RetQ Try.prog [.tmp 2] R) [x0, un, un, un, un, un, un, un, un, un, un, un, un, un, un, un, un, un, un, un, un, un, un, un, un, un, un] h) : AC Try.prog 40 [x0] h R :=
  AC_of' (rs := [.tmp 2]) Try.func40 (by kernel_rfl) hd40 Try.ntmps40 rfl H

/-- spec.moPick -/
def c68 : IC :=
  (.seq
  (.reg [
    ⟨some 4, .assign (.const (.slice none 0 0)), none⟩])
  (.seq
  (.reg [
    ⟨some 5, .assign (.const (.slice none 0 0)), none⟩])
  (.seq
  (.seq
  (.reg [
    ⟨some 8, .move (.tmp 1), none⟩,
    ⟨some 9, .call { callee := .builtin .len, args := #[.tmp 8], argTypes := #[31] }, none⟩,
    ⟨some 10, .move (.const (.int .i64 0)), none⟩])
  (.block 0
  (.loop
    (.seq
    (.reg [
      ⟨some 11, .binOp .lss 3 (.tmp 10) (.tmp 9) 3, none⟩])
    (.seq
    (.cond (.tmp 11)
      .skip
      (.exit 0))
    (.seq
    (.block 1
    (.seq
    (.reg [
      ⟨some 12, .indexAddr 31 (.tmp 8) (.tmp 10), none⟩,
      ⟨some 13, .load 3 (.tmp 12), none⟩,
      ⟨some 7, .assign (.tmp 13), none⟩])
    (.reg [
      ⟨some 14, .move (.tmp 5), none⟩,
      ⟨some 15, .move (.tmp 0), none⟩,
      ⟨some 16, .move (.tmp 7), none⟩,
      ⟨some 17, .indexAddr 31 (.tmp 15) (.tmp 16), none⟩,
      ⟨some 18, .load 3 (.tmp 17), none⟩,
      ⟨some 19, .buildSlice 31 1 #[(0, .tmp 18)], none⟩,
      ⟨some 20, .call { callee := .builtin .append, args := #[.tmp 14, .tmp 19], argTypes := #[31, 31] }, none⟩,
      ⟨some 5, .assign (.tmp 20), none⟩])))
    (.reg [
      ⟨some 21, .binOp .add 3 (.tmp 10) (.const (.int .i64 1)) 3, none⟩,
      ⟨some 10, .move (.tmp 21), none⟩])))))))
  (.seq
  (.reg [
    ⟨some 22, .move (.tmp 5), none⟩,
    ⟨some 4, .assign (.tmp 22), none⟩])
  .ret))))
theorem hd68 : Try.f68.body.map dec = some c68 := by kernel_rfl
theorem e68 {R : AV → AH → Prop} {h : AH} (x0 x1 : AV) (H : h.wf → AI Try.prog c68 (RetQ Try.prog [.tmp 4] R) [x0, x1, un, un, un, un, un, un, un, un, un, un, un, un, un, un, un, un, un, un, un, un, un] h) : AC Try.prog 68 [x0, x1] h R :=
  AC_of' (rs := [.tmp 4]) Try.func68 (by kernel_rfl) hd68 Try.ntmps68 rfl H

/-- spec.moThen -/
def c42 : IC :=
  (.seq
  (.reg [
    ⟨some 4, .assign (.const (.slice none 0 0)), none⟩])
  (.seq
  (.reg [
    ⟨some 5, .move (.tmp 1), none⟩,
    ⟨some 6, .move (.tmp 0), none⟩,
    ⟨some 7, .call { callee := .value (.func 68), args := #[.tmp 5, .tmp 6], argTypes := #[31, 31] }, none⟩,
    ⟨some 4, .assign (.tmp 7), none⟩])
  .ret))
theorem hd42 : Try.f42.body.map dec = some c42 := by kernel_rfl
theorem e42 {R : AV → AH → Prop} {h : AH} (x0 x1 : AV) (H : h.wf → AI Try.prog c42 (RetQ Try.prog [.tmp 4] R) [x0, x1, un, un, un, un, un, un] h) : AC Try.prog 42 [x0, x1] h R :=
  AC_of' (rs := [.tmp 4]) Try.func42 (by kernel_rfl) hd42 Try.ntmps42 rfl H

/-- spec.l1Least -/
def c99 : IC :=
  (.seq
  (.reg [
    ⟨some 4, .assign (.const (.int .i64 0)), none⟩])
  (.seq
  (.seq
  (.reg [
    ⟨some 5, .move (.tmp 0), none⟩,
    ⟨some 6, .move (.tmp 1), none⟩,
    ⟨some 7, .binOp .lss 3 (.tmp 5) (.tmp 6) 3, none⟩])
  (.cond (.tmp 7)
    (.seq
    (.reg [
      ⟨some 8, .move (.tmp 0), none⟩,
      ⟨some 4, .assign (.tmp 8), none⟩])
    .ret)
    .skip))
  (.seq
  (.reg [
    ⟨some 9, .move (.tmp 1), none⟩,
    ⟨some 4, .assign (.tmp 9), none⟩])
  .ret)))
theorem hd99 : Try.f99.body.map dec = some c99 := by kernel_rfl
theorem e99 {R : AV → AH → Prop} {h : AH} (x0 x1 : AV) (H : h.wf → AI Try.prog c99 (RetQ Try.prog [.tmp 4] R) [x0, x1, un, un, un, un, un, un, un, un] h) : AC Try.prog 99 [x0, x1] h R :=
  AC_of' (rs := [.tmp 4]) Try.func99 (by kernel_rfl) hd99 Try.ntmps99 rfl H

noncomputable def rg92_0 : Array Oper := rawAt Try.f92 0
/-- spec.plSum -/
noncomputable def c92 : IC :=
  (.seq
  (.reg [
    ⟨some 4, .assign (.const (.slice none 0 0)), none⟩])
  (.seq
  (.reg [
    ⟨some 5, .assign (.const (.slice none 0 0)), none⟩])
  (.seq
  (.seq
  (.reg [
    ⟨some 7, .move (.tmp 0), none⟩,
    ⟨some 8, .call { callee := .builtin .len, args := #[.tmp 7], argTypes := #[31] }, none⟩,
    ⟨some 9, .move (.const (.int .i64 0)), none⟩])
  (.block 0
  (.loop
    (.seq
    (.reg [
      ⟨some 10, .binOp .lss 3 (.tmp 9) (.tmp 8) 3, none⟩])
    (.seq
    (.cond (.tmp 10)
      .skip
      (.exit 0))
    (.seq
    (.block 1
    (.seq
    (.reg [
      ⟨some 11, .move (.tmp 9), none⟩,
      ⟨some 6, .assign (.tmp 11), none⟩])
    (.raw (.region 5 rg92_0 true))))
    (.reg [
      ⟨some 25, .binOp .add 3 (.tmp 9) (.const (.int .i64 1)) 3, none⟩,
      ⟨some 9, .move (.tmp 25), none⟩])))))))
  (.seq
  (.reg [
    ⟨some 26, .move (.tmp 5), none⟩,
    ⟨some 4, .assign (.tmp 26), none⟩])
  .ret))))
theorem hd92 : Try.f92.body.map dec = some c92 := by kernel_rfl
theorem e92 {R : AV → AH → Prop} {h : AH} (x0 x1 : AV) (H : h.wf → AI Try.prog c92 (RetQ Try.prog [.tmp 4] R) [x0, x1, un, un, un, un, un, un, un, un, un, un, un, un, un, un, un, un, un, un, un, un, un, un, un, un, un] h) : AC Try.prog 92 [x0, x1] h R :=
  AC_of' (rs := [.tmp 4]) Try.func92 (by kernel_rfl) hd92 Try.ntmps92 rfl H
theorem dz92_0 {h0 : AH} {L : List It} {Q : Exit → List AV → List It → Prop} {a : List AV} {id : Nat} (H : LX Try.prog ⟨[12], []⟩ h0 L L (.c (⟨some 12, .move (.tmp 5), none⟩, .p) <| .c (⟨some 13, .move (.tmp 0), none⟩, .p) <| .c (⟨some 14, .move (.tmp 6), none⟩, .p) <| .c (⟨some 15, .indexAddr 31 (.tmp 13) (.tmp 14), none⟩, .p) <| .c (⟨some 16, .load 3 (.tmp 15), none⟩, .l) <| .c (⟨some 17, .move (.tmp 1), none⟩, .p) <| .c (⟨some 18, .move (.tmp 6), none⟩, .p) <| .c (⟨some 19, .indexAddr 31 (.tmp 17) (.tmp 18), none⟩, .p) <| .c (⟨some 20, .load 3 (.tmp 19), none⟩, .l) <| .c (⟨some 21, .binOp .add 3 (.tmp 16) (.tmp 20) 3, none⟩, .p) <| .c (⟨some 22, .call { callee := .value (.func 99), args := #[.tmp 21, .const (.int .i64 1000001)], argTypes := #[3, 3] }, none⟩, .e) <| .c (⟨some 23, .buildSlice 31 1 #[(0, .tmp 22)], none⟩, .e) <| .c (⟨some 24, .call { callee := .builtin .append, args := #[.tmp 12, .tmp 23], argTypes := #[31, 31] }, none⟩, .f) <| .c (⟨some 5, .assign (.tmp 24), none⟩, .p) <| .n) Q a) : LI Try.prog h0 L (.raw (.region id rg92_0 true)) Q a :=
  LI_draw (.c (0, .p) <| .c (1, .p) <| .c (2, .p) <| .c (3, .p) <| .c (4, .l) <| .c (5, .p) <| .c (6, .p) <| .c (7, .p) <| .c (8, .l) <| .c (9, .p) <| .c (10, .e) <| .c (11, .e) <| .c (12, .f) <| .c (13, .p) <| .n) [12] (by kernel_rfl) (by kernel_rfl) (by kernel_rfl) H
theorem dy92_0 {h0 : AH} {L : List It} {Q : Exit → List AV → List It → Prop} {a : List AV} {id : Nat} (H : LX Try.prog ⟨[10, 11, 12], []⟩ h0 L L (.c (⟨some 12, .move (.tmp 5), none⟩, .p) <| .c (⟨some 13, .move (.tmp 0), none⟩, .p) <| .c (⟨some 14, .move (.tmp 6), none⟩, .p) <| .c (⟨some 15, .indexAddr 31 (.tmp 13) (.tmp 14), none⟩, .p) <| .c (⟨some 16, .load 3 (.tmp 15), none⟩, .l) <| .c (⟨some 17, .move (.tmp 1), none⟩, .p) <| .c (⟨some 18, .move (.tmp 6), none⟩, .p) <| .c (⟨some 19, .indexAddr 31 (.tmp 17) (.tmp 18), none⟩, .p) <| .c (⟨some 20, .load 3 (.tmp 19), none⟩, .l) <| .c (⟨some 21, .binOp .add 3 (.tmp 16) (.tmp 20) 3, none⟩, .p) <| .c (⟨some 22, .call { callee := .value (.func 99), args := #[.tmp 21, .const (.int .i64 1000001)], argTypes := #[3, 3] }, none⟩, .f) <| .c (⟨some 23, .buildSlice 31 1 #[(0, .tmp 22)], none⟩, .f) <| .c (⟨some 24, .call { callee := .builtin .append, args := #[.tmp 12, .tmp 23], argTypes := #[31, 31] }, none⟩, .f) <| .c (⟨some 5, .assign (.tmp 24), none⟩, .p) <| .n) Q a) : LI Try.prog h0 L (.raw (.region id rg92_0 true)) Q a :=
  LI_draw (.c (0, .p) <| .c (1, .p) <| .c (2, .p) <| .c (3, .p) <| .c (4, .l) <| .c (5, .p) <| .c (6, .p) <| .c (7, .p) <| .c (8, .l) <| .c (9, .p) <| .c (10, .f) <| .c (11, .f) <| .c (12, .f) <| .c (13, .p) <| .n) [10, 11, 12] (by kernel_rfl) (by kernel_rfl) (by kernel_rfl) H
theorem dr92_0 (m : Nat) {Q : Exit → List AV → AH → Prop} {a : List AV} {h : AH} {id : Nat} (H : AX Try.prog m h [(⟨some 12, .move (.tmp 5), none⟩, true),
  (⟨some 13, .move (.tmp 0), none⟩, true),
  (⟨some 14, .move (.tmp 6), none⟩, true),
  (⟨some 15, .indexAddr 31 (.tmp 13) (.tmp 14), none⟩, true),
  (⟨some 16, .load 3 (.tmp 15), none⟩, true),
  (⟨some 17, .move (.tmp 1), none⟩, true),
  (⟨some 18, .move (.tmp 6), none⟩, true),
  (⟨some 19, .indexAddr 31 (.tmp 17) (.tmp 18), none⟩, true),
  (⟨some 20, .load 3 (.tmp 19), none⟩, true),
  (⟨some 21, .binOp .add 3 (.tmp 16) (.tmp 20) 3, none⟩, true),
  (⟨some 22, .call { callee := .value (.func 99), args := #[.tmp 21, .const (.int .i64 1000001)], argTypes := #[3, 3] }, none⟩, false),
  (⟨some 23, .buildSlice 31 1 #[(0, .tmp 22)], none⟩, false),
  (⟨some 24, .call { callee := .builtin .append, args := #[.tmp 12, .tmp 23], argTypes := #[31, 31] }, none⟩, false),
  (⟨some 5, .assign (.tmp 24), none⟩, true)] (fun a' h' => Q .normal a' h') a h) : AI Try.prog (.raw (.region id rg92_0 true)) Q a h :=
  AI_draw [(0, true), (1, true), (2, true), (3, true), (4, true), (5, true), (6, true), (7, true), (8, true), (9, true), (10, false), (11, false), (12, false), (13, true)] m (by kernel_rfl) (by kernel_rfl) (by kernel_rfl) H

noncomputable def rg77_0 : Array Oper := rawAt Try.f77 0
/-- spec.plExponents -/
noncomputable def c77 : IC :=
  (.seq
  (.reg [
    ⟨some 1, .box 51 (.tmp 0), none⟩,
    ⟨some 2, .assign (.const (.slice none 0 0)), none⟩])
  (.seq
  (.reg [
    ⟨some 3, .assign (.const (.slice none 0 0)), none⟩])
  (.seq
  (.seq
  (.reg [
    ⟨some 4, .assign (.const (.int .i64 0)), none⟩])
  (.block 0
  (.loop
    (.seq
    (.seq
    (.reg [
      ⟨some 8, .move (.tmp 4), none⟩,
      ⟨some 9, .fieldAddr 51 (.tmp 1) 0, none⟩,
      ⟨some 10, .load 3 (.tmp 9), none⟩,
      ⟨some 11, .binOp .lss 3 (.tmp 8) (.tmp 10) 3, none⟩])
    (.cond (.tmp 11)
      .skip
      (.exit 0)))
    (.seq
    (.block 1
    (.seq
    (.reg [
      ⟨some 14, .fieldAddr 51 (.tmp 1) 0, none⟩,
      ⟨some 15, .load 3 (.tmp 14), none⟩,
      ⟨some 16, .makeSlice 31 (.tmp 15) (.tmp 15), none⟩,
      ⟨some 5, .assign (.tmp 16), none⟩])
    (.seq
    (.reg [
      ⟨some 17, .move (.tmp 5), none⟩,
      ⟨some 18, .move (.tmp 4), none⟩,
      ⟨some 19, .indexAddr 31 (.tmp 17) (.tmp 18), none⟩,
      ⟨none, .store 3 (.tmp 19) (.const (.int .i64 1)), none⟩])
    (.reg [
      ⟨some 20, .move (.tmp 3), none⟩,
      ⟨some 21, .move (.tmp 5), none⟩,
      ⟨some 22, .buildSlice 22 1 #[(0, .tmp 21)], none⟩,
      ⟨some 23, .call { callee := .builtin .append, args := #[.tmp 20, .tmp 22], argTypes := #[22, 22] }, none⟩,
      ⟨some 3, .assign (.tmp 23), none⟩]))))
    (.reg [
      ⟨some 12, .move (.tmp 4), none⟩,
      ⟨some 13, .binOp .add 3 (.tmp 12) (.const (.int .i64 1)) 3, none⟩,
      ⟨some 4, .assign (.tmp 13), none⟩]))))))
  (.seq
  (.seq
  (.reg [
    ⟨some 24, .fieldAddr 51 (.tmp 1) 1, none⟩,
    ⟨some 25, .load 49 (.tmp 24), none⟩,
    ⟨some 26, .call { callee := .builtin .len, args := #[.tmp 25], argTypes := #[49] }, none⟩,
    ⟨some 27, .move (.const (.int .i64 0)), none⟩])
  (.block 2
  (.loop
    (.seq
    (.reg [
      ⟨some 28, .binOp .lss 3 (.tmp 27) (.tmp 26) 3, none⟩])
    (.seq
    (.cond (.tmp 28)
      .skip
      (.exit 2))
    (.seq
    (.block 3
    (.seq
    (.reg [
      ⟨some 29, .indexAddr 49 (.tmp 25) (.tmp 27), none⟩,
      ⟨some 30, .load 73 (.tmp 29), none⟩,
      ⟨some 7, .alloc 73, none⟩,
      ⟨none, .store 73 (.tmp 7) (.tmp 30), none⟩])
    (.raw (.region 11 rg77_0 true))))
    (.reg [
      ⟨some 45, .binOp .add 3 (.tmp 27) (.const (.int .i64 1)) 3, none⟩,
      ⟨some 27, .move (.tmp 45), none⟩])))))))
  (.seq
  (.reg [
    ⟨some 46, .move (.tmp 3), none⟩,
    ⟨some 2, .assign (.tmp 46), none⟩])
  .ret)))))
theorem hd77 : Try.f77.body.map dec = some c77 := by kernel_rfl
theorem e77 {R : AV → AH → Prop} {h : AH} (x0 : AV) (H : h.wf → AI Try.prog c77 (RetQ Try.prog [.tmp 2] R) [x0, un, un, un, un, un, un, un, un, un, un, un, un, un, un, un, un, un, un, un, un, un, un, un, un, un, un, un, un, un, un, un, un, un, un, un, un, un, un, un, un, un, un, un, un, un, un] h) : AC Try.prog 77 [x0] h R :=
  AC_of' (rs := [.tmp 2]) Try.func77 (by kernel_rfl) hd77 Try.ntmps77 rfl H
theorem dz77_0 {h0 : AH} {L : List It} {Q : Exit → List AV → List It → Prop} {a : List AV} {id : Nat} (H : LX Try.prog ⟨[13], []⟩ h0 L L (.c (⟨some 31, .move (.tmp 3), none⟩, .p) <| .c (⟨some 32, .move (.tmp 3), none⟩, .p) <| .c (⟨some 33, .fieldAddr 73 (.tmp 7) 0, none⟩, .p) <| .c (⟨some 34, .load 3 (.tmp 33), none⟩, .l) <| .c (⟨some 35, .indexAddr 22 (.tmp 32) (.tmp 34), none⟩, .p) <| .c (⟨some 36, .load 31 (.tmp 35), none⟩, .l) <| .c (⟨some 37, .move (.tmp 3), none⟩, .p) <| .c (⟨some 38, .fieldAddr 73 (.tmp 7) 1, none⟩, .p) <| .c (⟨some 39, .load 3 (.tmp 38), none⟩, .l) <| .c (⟨some 40, .indexAddr 22 (.tmp 37) (.tmp 39), none⟩, .p) <| .c (⟨some 41, .load 31 (.tmp 40), none⟩, .l) <| .c (⟨some 42, .call { callee := .value (.func 92), args := #[.tmp 36, .tmp 41], argTypes := #[31, 31] }, none⟩, .e) <| .c (⟨some 43, .buildSlice 22 1 #[(0, .tmp 42)], none⟩, .e) <| .c (⟨some 44, .call { callee := .builtin .append, args := #[.tmp 31, .tmp 43], argTypes := #[22, 22] }, none⟩, .f) <| .c (⟨some 3, .assign (.tmp 44), none⟩, .p) <| .n) Q a) : LI Try.prog h0 L (.raw (.region id rg77_0 true)) Q a :=
  LI_draw (.c (0, .p) <| .c (1, .p) <| .c (2, .p) <| .c (3, .l) <| .c (4, .p) <| .c (5, .l) <| .c (6, .p) <| .c (7, .p) <| .c (8, .l) <| .c (9, .p) <| .c (10, .l) <| .c (11, .e) <| .c (12, .e) <| .c (13, .f) <| .c (14, .p) <| .n) [13] (by kernel_rfl) (by kernel_rfl) (by kernel_rfl) H
theorem dy77_0 {h0 : AH} {L : List It} {Q : Exit → List AV → List It → Prop} {a : List AV} {id : Nat} (H : LX Try.prog ⟨[11, 12, 13], []⟩ h0 L L (.c (⟨some 31, .move (.tmp 3), none⟩, .p) <| .c (⟨some 32, .move (.tmp 3), none⟩, .p) <| .c (⟨some 33, .fieldAddr 73 (.tmp 7) 0, none⟩, .p) <| .c (⟨some 34, .load 3 (.tmp 33), none⟩, .l) <| .c (⟨some 35, .indexAddr 22 (.tmp 32) (.tmp 34), none⟩, .p) <| .c (⟨some 36, .load 31 (.tmp 35), none⟩, .l) <| .c (⟨some 37, .move (.tmp 3), none⟩, .p) <| .c (⟨some 38, .fieldAddr 73 (.tmp 7) 1, none⟩, .p) <| .c (⟨some 39, .load 3 (.tmp 38), none⟩, .l) <| .c (⟨some 40, .indexAddr 22 (.tmp 37) (.tmp 39), none⟩, .p) <| .c (⟨some 41, .load 31 (.tmp 40), none⟩, .l) <| .c (⟨some 42, .call { callee := .value (.func 92), args := #[.tmp 36, .tmp 41], argTypes := #[31, 31] }, none⟩, .f) <| .c (⟨some 43, .buildSlice 22 1 #[(0, .tmp 42)], none⟩, .f) <| .c (⟨some 44, .call { callee := .builtin .append, args := #[.tmp 31, .tmp 43], argTypes := #[22, 22] }, none⟩, .f) <| .c (⟨some 3, .assign (.tmp 44), none⟩, .p) <| .n) Q a) : LI Try.prog h0 L (.raw (.region id rg77_0 true)) Q a :=
  LI_draw (.c (0, .p) <| .c (1, .p) <| .c (2, .p) <| .c (3, .l) <| .c (4, .p) <| .c (5, .l) <| .c (6, .p) <| .c (7, .p) <| .c (8, .l) <| .c (9, .p) <| .c (10, .l) <| .c (11, .f) <| .c (12, .f) <| .c (13, .f) <| .c (14, .p) <| .n) [11, 12, 13] (by kernel_rfl) (by kernel_rfl) (by kernel_rfl) H
theorem dr77_0 (m : Nat) {Q : Exit → List AV → AH → Prop} {a : List AV} {h : AH} {id : Nat} (H : AX Try.prog m h [(⟨some 31, .move (.tmp 3), none⟩, true),
  (⟨some 32, .move (.tmp 3), none⟩, true),
  (⟨some 33, .fieldAddr 73 (.tmp 7) 0, none⟩, true),
  (⟨some 34, .load 3 (.tmp 33), none⟩, true),
  (⟨some 35, .indexAddr 22 (.tmp 32) (.tmp 34), none⟩, true),
  (⟨some 36, .load 31 (.tmp 35), none⟩, true),
  (⟨some 37, .move (.tmp 3), none⟩, true),
  (⟨some 38, .fieldAddr 73 (.tmp 7) 1, none⟩, true),
  (⟨some 39, .load 3 (.tmp 38), none⟩, true),
  (⟨some 40, .indexAddr 22 (.tmp 37) (.tmp 39), none⟩, true),
  (⟨some 41, .load 31 (.tmp 40), none⟩, true),
  (⟨some 42, .call { callee := .value (.func 92), args := #[.tmp 36, .tmp 41], argTypes := #[31, 31] }, none⟩, false),
  (⟨some 43, .buildSlice 22 1 #[(0, .tmp 42)], none⟩, false),
  (⟨some 44, .call { callee := .builtin .append, args := #[.tmp 31, .tmp 43], argTypes := #[22, 22] }, none⟩, false),
  (⟨some 3, .assign (.tmp 44), none⟩, true)] (fun a' h' => Q .normal a' h') a h) : AI Try.prog (.raw (.region id rg77_0 true)) Q a h :=
  AI_draw [(0, true), (1, true), (2, true), (3, true), (4, true), (5, true), (6, true), (7, true), (8, true), (9, true), (10, true), (11, false), (12, false), (13, false), (14, true)] m (by kernel_rfl) (by kernel_rfl) (by kernel_rfl) H

/-- spec.l1All -/
def c78 : IC :=
  (.seq
  (.reg [
    ⟨some 6, .assign (.const (.bool false)), none⟩])
  (.seq
  (.seq
  (.reg [
    ⟨some 9, .move (.tmp 0), none⟩,
    ⟨some 10, .call { callee := .builtin .len, args := #[.tmp 9], argTypes := #[31] }, none⟩,
    ⟨some 11, .move (.const (.int .i64 0)), none⟩])
  (.block 0
  (.loop
    (.seq
    (.reg [
      ⟨some 12, .binOp .lss 3 (.tmp 11) (.tmp 10) 3, none⟩])
    (.seq
    (.cond (.tmp 12)
      .skip
      (.exit 0))
    (.seq
    (.block 1
    (.seq
    (.reg [
      ⟨some 13, .indexAddr 31 (.tmp 9) (.tmp 11), none⟩,
      ⟨some 14, .load 3 (.tmp 13), none⟩,
      ⟨some 8, .assign (.tmp 14), none⟩])
    (.seq
    (.reg [
      ⟨some 15, .move (.tmp 8), none⟩,
      ⟨some 16, .move (.tmp 1), none⟩,
      ⟨some 17, .move (.tmp 2), none⟩,
      ⟨some 18, .call { callee := .value (.func 76), args := #[.tmp 15, .tmp 16, .tmp 17], argTypes := #[3, 3, 3] }, none⟩,
      ⟨some 19, .unOp .not 4 (.tmp 18), none⟩])
    (.cond (.tmp 19)
      (.seq
      (.reg [
        ⟨some 6, .assign (.const (.bool false)), none⟩])
      .ret)
      .skip))))
    (.reg [
      ⟨some 20, .binOp .add 3 (.tmp 11) (.const (.int .i64 1)) 3, none⟩,
      ⟨some 11, .move (.tmp 20), none⟩])))))))
  (.seq
  (.reg [
    ⟨some 6, .assign (.const (.bool true)), none⟩])
  .ret)))
theorem hd78 : Try.f78.body.map dec = some c78 := by kernel_rfl
theorem e78 {R : AV → AH → Prop} {h : AH} (x0 x1 x2 : AV) (H : h.wf → AI Try.prog c78 (RetQ Try.prog [.tmp 6] R) [x0, x1, x2, un, un, un, un, un, un, un, un, un, un, un, un, un, un, un, un, un, un] h) : AC Try.prog 78 [x0, x1, x2] h R :=
  AC_of' (rs := [.tmp 6]) Try.func78 (by kernel_rfl) hd78 Try.ntmps78 rfl H

/-- spec.plGood -/
def c58 : IC :=
  (.seq
  (.reg [
    ⟨some 1, .box 51 (.tmp 0), none⟩,
    ⟨some 2, .assign (.const (.bool false)), none⟩])
  (.seq
  (.seq
  (.reg [
    ⟨some 7, .fieldAddr 51 (.tmp 1) 0, none⟩,
    ⟨some 8, .load 3 (.tmp 7), none⟩,
    ⟨some 9, .call { callee := .value (.func 76), args := #[.tmp 8, .const (.int .i64 1), .const (.int .i64 6)], argTypes := #[3, 3, 3] }, none⟩,
    ⟨some 10, .unOp .not 4 (.tmp 9), none⟩,
    ⟨some 11, .move (.tmp 10), none⟩,
    ⟨some 12, .fieldAddr 51 (.tmp 1) 1, some (11, false)⟩,
    ⟨some 13, .load 49 (.tmp 12), some (11, false)⟩,
    ⟨some 14, .call { callee := .builtin .len, args := #[.tmp 13], argTypes := #[49] }, some (11, false)⟩,
    ⟨some 15, .binOp .gtr 3 (.tmp 14) (.const (.int .i64 40)) 3, some (11, false)⟩,
    ⟨some 16, .pick (.tmp 11) (.const (.bool true)) (.tmp 15), none⟩,
    ⟨some 17, .move (.tmp 16), none⟩,
    ⟨some 18, .fieldAddr 51 (.tmp 1) 2, some (17, false)⟩,
    ⟨some 19, .load 31 (.tmp 18), some (17, false)⟩,
    ⟨some 20, .call { callee := .builtin .len, args := #[.tmp 19], argTypes := #[31] }, some (17, false)⟩,
    ⟨some 21, .binOp .gtr 3 (.tmp 20) (.const (.int .i64 6)) 3, some (17, false)⟩,
    ⟨some 22, .pick (.tmp 17) (.const (.bool true)) (.tmp 21), none⟩])
  (.cond (.tmp 22)
    (.seq
    (.reg [
      ⟨some 2, .assign (.const (.bool false)), none⟩])
    .ret)
    .skip))
  (.seq
  (.seq
  (.reg [
    ⟨some 23, .fieldAddr 51 (.tmp 1) 1, none⟩,
    ⟨some 24, .load 49 (.tmp 23), none⟩,
    ⟨some 25, .call { callee := .builtin .len, args := #[.tmp 24], argTypes := #[49] }, none⟩,
    ⟨some 26, .move (.const (.int .i64 0)), none⟩])
  (.block 0
  (.loop
    (.seq
    (.reg [
      ⟨some 27, .binOp .lss 3 (.tmp 26) (.tmp 25) 3, none⟩])
    (.seq
    (.cond (.tmp 27)
      .skip
      (.exit 0))
    (.seq
    (.block 1
    (.seq
    (.reg [
      ⟨some 28, .move (.tmp 26), none⟩,
      ⟨some 29, .indexAddr 49 (.tmp 24) (.tmp 26), none⟩,
      ⟨some 30, .load 73 (.tmp 29), none⟩,
      ⟨some 4, .alloc 73, none⟩,
      ⟨some 3, .assign (.tmp 28), none⟩,
      ⟨none, .store 73 (.tmp 4) (.tmp 30), none⟩])
    (.seq
    (.reg [
      ⟨some 31, .fieldAddr 73 (.tmp 4) 0, none⟩,
      ⟨some 32, .load 3 (.tmp 31), none⟩,
      ⟨some 33, .fieldAddr 73 (.tmp 4) 1, none⟩,
      ⟨some 34, .load 3 (.tmp 33), none⟩,
      ⟨some 35, .call { callee := .value (.func 76), args := #[.tmp 32, .const (.int .i64 0), .tmp 34], argTypes := #[3, 3, 3] }, none⟩,
      ⟨some 36, .unOp .not 4 (.tmp 35), none⟩,
      ⟨some 37, .move (.tmp 36), none⟩,
      ⟨some 38, .fieldAddr 73 (.tmp 4) 1, some (37, false)⟩,
      ⟨some 39, .load 3 (.tmp 38), some (37, false)⟩,
      ⟨some 40, .fieldAddr 51 (.tmp 1) 0, some (37, false)⟩,
      ⟨some 41, .load 3 (.tmp 40), some (37, false)⟩,
      ⟨some 42, .move (.tmp 3), some (37, false)⟩,
      ⟨some 43, .binOp .add 3 (.tmp 41) (.tmp 42) 3, some (37, false)⟩,
      ⟨some 44, .binOp .geq 3 (.tmp 39) (.tmp 43) 3, some (37, false)⟩,
      ⟨some 45, .pick (.tmp 37) (.const (.bool true)) (.tmp 44), none⟩])
    (.cond (.tmp 45)
      (.seq
      (.reg [
        ⟨some 2, .assign (.const (.bool false)), none⟩])
      .ret)
      .skip))))
    (.reg [
      ⟨some 46, .binOp .add 3 (.tmp 26) (.const (.int .i64 1)) 3, none⟩,
      ⟨some 26, .move (.tmp 46), none⟩])))))))
  (.seq
  (.seq
  (.reg [
    ⟨some 47, .load 51 (.tmp 1), none⟩,
    ⟨some 48, .call { callee := .value (.func 77), args := #[.tmp 47], argTypes := #[51] }, none⟩,
    ⟨some 49, .call { callee := .builtin .len, args := #[.tmp 48], argTypes := #[22] }, none⟩,
    ⟨some 50, .move (.const (.int .i64 0)), none⟩])
  (.block 2
  (.loop
    (.seq
    (.reg [
      ⟨some 51, .binOp .lss 3 (.tmp 50) (.tmp 49) 3, none⟩])
    (.seq
    (.cond (.tmp 51)
      .skip
      (.exit 2))
    (.seq
    (.block 3
    (.seq
    (.reg [
      ⟨some 52, .indexAddr 22 (.tmp 48) (.tmp 50), none⟩,
      ⟨some 53, .load 31 (.tmp 52), none⟩,
      ⟨some 6, .assign (.tmp 53), none⟩])
    (.seq
    (.reg [
      ⟨some 54, .move (.tmp 6), none⟩,
      ⟨some 55, .call { callee := .value (.func 78), args := #[.tmp 54, .const (.int .i64 0), .const (.int .i64 1000000)], argTypes := #[31, 3, 3] }, none⟩,
      ⟨some 56, .unOp .not 4 (.tmp 55), none⟩])
    (.cond (.tmp 56)
      (.seq
      (.reg [
        ⟨some 2, .assign (.const (.bool false)), none⟩])
      .ret)
      .skip))))
    (.reg [
      ⟨some 57, .binOp .add 3 (.tmp 50) (.const (.int .i64 1)) 3, none⟩,
      ⟨some 50, .move (.tmp 57), none⟩])))))))
  (.seq
  (.reg [
    ⟨some 58, .fieldAddr 51 (.tmp 1) 2, none⟩,
    ⟨some 59, .load 31 (.tmp 58), none⟩,
    ⟨some 60, .fieldAddr 51 (.tmp 1) 0, none⟩,
    ⟨some 61, .load 3 (.tmp 60), none⟩,
    ⟨some 62, .fieldAddr 51 (.tmp 1) 1, none⟩,
    ⟨some 63, .load 49 (.tmp 62), none⟩,
    ⟨some 64, .call { callee := .builtin .len, args := #[.tmp 63], argTypes := #[49] }, none⟩,
    ⟨some 65, .binOp .add 3 (.tmp 61) (.tmp 64) 3, none⟩,
    ⟨some 66, .binOp .sub 3 (.tmp 65) (.const (.int .i64 1)) 3, none⟩,
    ⟨some 67, .call { callee := .value (.func 78), args := #[.tmp 59, .const (.int .i64 0), .tmp 66], argTypes := #[31, 3, 3] }, none⟩,
    ⟨some 2, .assign (.tmp 67), none⟩])
  .ret)))))
theorem hd58 : Try.f58.body.map dec = some c58 := by kernel_rfl
theorem e58 {R : AV → AH → Prop} {h : AH} (x0 : AV) (H : h.wf → AI Try.prog c58 (RetQ Try.prog [.tmp 2] R) [x0, un, un, un, un, un, un, un, un, un, un, un, un, un, un, un, un, un, un, un, un, un, un, un, un, un, un, un, un, un, un, un, un, un, un, un, un, un, un, un, un, un, un, un, un, un, un, un, un, un, un, un, un, un, un, un, un, un, un, un, un, un, un, un, un, un, un, un] h) : AC Try.prog 58 [x0] h R :=
  AC_of' (rs := [.tmp 2]) Try.func58 (by kernel_rfl) hd58 Try.ntmps58 rfl H

/-- spec.l1Own -/
def c59 : IC :=
  (.seq
  (.reg [
    ⟨some 2, .assign (.const (.slice none 0 0)), none⟩])
  (.seq
  (.reg [
    ⟨some 3, .buildSlice 31 0 #[], none⟩,
    ⟨some 4, .move (.tmp 0), none⟩,
    ⟨some 5, .call { callee := .builtin .append, args := #[.tmp 3, .tmp 4], argTypes := #[31, 31] }, none⟩,
    ⟨some 2, .assign (.tmp 5), none⟩])
  .ret))
theorem hd59 : Try.f59.body.map dec = some c59 := by kernel_rfl
theorem e59 {R : AV → AH → Prop} {h : AH} (x0 : AV) (H : h.wf → AI Try.prog c59 (RetQ Try.prog [.tmp 2] R) [x0, un, un, un, un, un] h) : AC Try.prog 59 [x0] h R :=
  AC_of' (rs := [.tmp 2]) Try.func59 (by kernel_rfl) hd59 Try.ntmps59 rfl H

noncomputable def rg27_0 : Array Oper := rawAt Try.f27 0
/-- spec.RunPermutations -/
noncomputable def c27 : IC :=
  (.seq
  (.reg [
    ⟨some 2, .box 51 (.tmp 0), none⟩,
    ⟨some 4, .assign (.const (.slice none 0 0)), none⟩,
    ⟨some 5, .assign (.const (.bool false)), none⟩])
  (.seq
  (.seq
  (.reg [
    ⟨some 14, .load 51 (.tmp 2), none⟩,
    ⟨some 15, .call { callee := .value (.func 58), args := #[.tmp 14], argTypes := #[51] }, none⟩,
    ⟨some 16, .unOp .not 4 (.tmp 15), none⟩,
    ⟨some 17, .move (.tmp 16), none⟩,
    ⟨some 18, .move (.tmp 1), some (17, false)⟩,
    ⟨some 19, .call { callee := .builtin .len, args := #[.tmp 18], argTypes := #[22] }, some (17, false)⟩,
    ⟨some 20, .fieldAddr 51 (.tmp 2) 0, some (17, false)⟩,
    ⟨some 21, .load 3 (.tmp 20), some (17, false)⟩,
    ⟨some 22, .binOp .neq 3 (.tmp 19) (.tmp 21) 3, some (17, false)⟩,
    ⟨some 23, .pick (.tmp 17) (.const (.bool true)) (.tmp 22), none⟩,
    ⟨some 24, .move (.tmp 23), none⟩,
    ⟨some 25, .move (.tmp 1), some (24, false)⟩,
    ⟨some 26, .call { callee := .value (.func 40), args := #[.tmp 25], argTypes := #[22] }, some (24, false)⟩,
    ⟨some 27, .unOp .not 4 (.tmp 26), some (24, false)⟩,
    ⟨some 28, .pick (.tmp 24) (.const (.bool true)) (.tmp 27), none⟩])
  (.cond (.tmp 28)
    (.seq
    (.reg [
      ⟨some 4, .assign (.const (.slice none 0 0)), none⟩,
      ⟨some 5, .assign (.const (.bool false)), none⟩])
    .ret)
    .skip))
  (.seq
  (.reg [
    ⟨some 6, .assign (.const (.slice none 0 0)), none⟩])
  (.seq
  (.seq
  (.reg [
    ⟨some 29, .move (.tmp 1), none⟩,
    ⟨some 30, .call { callee := .builtin .len, args := #[.tmp 29], argTypes := #[22] }, none⟩,
    ⟨some 31, .move (.const (.int .i64 0)), none⟩])
  (.block 0
  (.loop
    (.seq
    (.reg [
      ⟨some 32, .binOp .lss 3 (.tmp 31) (.tmp 30) 3, none⟩])
    (.seq
    (.cond (.tmp 32)
      .skip
      (.exit 0))
    (.seq
    (.block 1
    (.seq
    (.reg [
      ⟨some 33, .indexAddr 22 (.tmp 29) (.tmp 31), none⟩,
      ⟨some 34, .load 31 (.tmp 33), none⟩,
      ⟨some 8, .assign (.tmp 34), none⟩])
    (.reg [
      ⟨some 35, .move (.tmp 6), none⟩,
      ⟨some 36, .move (.tmp 8), none⟩,
      ⟨some 37, .call { callee := .value (.func 59), args := #[.tmp 36], argTypes := #[31] }, none⟩,
      ⟨some 38, .buildSlice 22 1 #[(0, .tmp 37)], none⟩,
      ⟨some 39, .call { callee := .builtin .append, args := #[.tmp 35, .tmp 38], argTypes := #[22, 22] }, none⟩,
      ⟨some 6, .assign (.tmp 39), none⟩])))
    (.reg [
      ⟨some 40, .binOp .add 3 (.tmp 31) (.const (.int .i64 1)) 3, none⟩,
      ⟨some 31, .move (.tmp 40), none⟩])))))))
  (.seq
  (.seq
  (.reg [
    ⟨some 41, .fieldAddr 51 (.tmp 2) 1, none⟩,
    ⟨some 42, .load 49 (.tmp 41), none⟩,
    ⟨some 43, .call { callee := .builtin .len, args := #[.tmp 42], argTypes := #[49] }, none⟩,
    ⟨some 44, .move (.const (.int .i64 0)), none⟩])
  (.block 2
  (.loop
    (.seq
    (.reg [
      ⟨some 45, .binOp .lss 3 (.tmp 44) (.tmp 43) 3, none⟩])
    (.seq
    (.cond (.tmp 45)
      .skip
      (.exit 2))
    (.seq
    (.block 3
    (.seq
    (.reg [
      ⟨some 46, .indexAddr 49 (.tmp 42) (.tmp 44), none⟩,
      ⟨some 47, .load 73 (.tmp 46), none⟩,
      ⟨some 10, .alloc 73, none⟩,
      ⟨none, .store 73 (.tmp 10) (.tmp 47), none⟩])
    (.raw (.region 12 rg27_0 true))))
    (.reg [
      ⟨some 62, .binOp .add 3 (.tmp 44) (.const (.int .i64 1)) 3, none⟩,
      ⟨some 44, .move (.tmp 62), none⟩])))))))
  (.seq
  (.reg [
    ⟨some 11, .assign (.const (.slice none 0 0)), none⟩])
  (.seq
  (.seq
  (.reg [
    ⟨some 63, .fieldAddr 51 (.tmp 2) 2, none⟩,
    ⟨some 64, .load 31 (.tmp 63), none⟩,
    ⟨some 65, .call { callee := .builtin .len, args := #[.tmp 64], argTypes := #[31] }, none⟩,
    ⟨some 66, .move (.const (.int .i64 0)), none⟩])
  (.block 4
  (.loop
    (.seq
    (.reg [
      ⟨some 67, .binOp .lss 3 (.tmp 66) (.tmp 65) 3, none⟩])
    (.seq
    (.cond (.tmp 67)
      .skip
      (.exit 4))
    (.seq
    (.block 5
    (.seq
    (.reg [
      ⟨some 68, .indexAddr 31 (.tmp 64) (.tmp 66), none⟩,
      ⟨some 69, .load 3 (.tmp 68), none⟩,
      ⟨some 13, .assign (.tmp 69), none⟩])
    (.reg [
      ⟨some 70, .move (.tmp 11), none⟩,
      ⟨some 71, .move (.tmp 6), none⟩,
      ⟨some 72, .move (.tmp 13), none⟩,
      ⟨some 73, .indexAddr 22 (.tmp 71) (.tmp 72), none⟩,
      ⟨some 74, .load 31 (.tmp 73), none⟩,
      ⟨some 75, .call { callee := .value (.func 59), args := #[.tmp 74], argTypes := #[31] }, none⟩,
      ⟨some 76, .buildSlice 22 1 #[(0, .tmp 75)], none⟩,
      ⟨some 77, .call { callee := .builtin .append, args := #[.tmp 70, .tmp 76], argTypes := #[22, 22] }, none⟩,
      ⟨some 11, .assign (.tmp 77), none⟩])))
    (.reg [
      ⟨some 78, .binOp .add 3 (.tmp 66) (.const (.int .i64 1)) 3, none⟩,
      ⟨some 66, .move (.tmp 78), none⟩])))))))
  (.seq
  (.reg [
    ⟨some 79, .move (.tmp 11), none⟩,
    ⟨some 4, .assign (.tmp 79), none⟩,
    ⟨some 5, .assign (.const (.bool true)), none⟩])
  .ret))))))))
theorem hd27 : Try.f27.body.map dec = some c27 := by kernel_rfl
theorem e27 {R : AV → AH → Prop} {h : AH} (x0 x1 : AV) (H : h.wf → AI Try.prog c27 (RetQ Try.prog [.tmp 4, .tmp 5] R) [x0, x1, un, un, un, un, un, un, un, un, un, un, un, un, un, un, un, un, un, un, un, un, un, un, un, un, un, un, un, un, un, un, un, un, un, un, un, un, un, un, un, un, un, un, un, un, un, un, un, un, un, un, un, un, un, un, un, un, un, un, un, un, un, un, un, un, un, un, un, un, un, un, un, un, un, un, un, un, un, un] h) : AC Try.prog 27 [x0, x1] h R :=
  AC_of' (rs := [.tmp 4, .tmp 5]) Try.func27 (by kernel_rfl) hd27 Try.ntmps27 rfl H
theorem dz27_0 {h0 : AH} {L : List It} {Q : Exit → List AV → List It → Prop} {a : List AV} {id : Nat} (H : LX Try.prog ⟨[13], []⟩ h0 L L (.c (⟨some 48, .move (.tmp 6), none⟩, .p) <| .c (⟨some 49, .move (.tmp 6), none⟩, .p) <| .c (⟨some 50, .fieldAddr 73 (.tmp 10) 0, none⟩, .p) <| .c (⟨some 51, .load 3 (.tmp 50), none⟩, .l) <| .c (⟨some 52, .indexAddr 22 (.tmp 49) (.tmp 51), none⟩, .p) <| .c (⟨some 53, .load 31 (.tmp 52), none⟩, .l) <| .c (⟨some 54, .move (.tmp 6), none⟩, .p) <| .c (⟨some 55, .fieldAddr 73 (.tmp 10) 1, none⟩, .p) <| .c (⟨some 56, .load 3 (.tmp 55), none⟩, .l) <| .c (⟨some 57, .indexAddr 22 (.tmp 54) (.tmp 56), none⟩, .p) <| .c (⟨some 58, .load 31 (.tmp 57), none⟩, .l) <| .c (⟨some 59, .call { callee := .value (.func 42), args := #[.tmp 53, .tmp 58], argTypes := #[31, 31] }, none⟩, .e) <| .c (⟨some 60, .buildSlice 22 1 #[(0, .tmp 59)], none⟩, .e) <| .c (⟨some 61, .call { callee := .builtin .append, args := #[.tmp 48, .tmp 60], argTypes := #[22, 22] }, none⟩, .f) <| .c (⟨some 6, .assign (.tmp 61), none⟩, .p) <| .n) Q a) : LI Try.prog h0 L (.raw (.region id rg27_0 true)) Q a :=
  LI_draw (.c (0, .p) <| .c (1, .p) <| .c (2, .p) <| .c (3, .l) <| .c (4, .p) <| .c (5, .l) <| .c (6, .p) <| .c (7, .p) <| .c (8, .l) <| .c (9, .p) <| .c (10, .l) <| .c (11, .e) <| .c (12, .e) <| .c (13, .f) <| .c (14, .p) <| .n) [13] (by kernel_rfl) (by kernel_rfl) (by kernel_rfl) H
theorem dy27_0 {h0 : AH} {L : List It} {Q : Exit → List AV → List It → Prop} {a : List AV} {id : Nat} (H : LX Try.prog ⟨[11, 12, 13], []⟩ h0 L L (.c (⟨some 48, .move (.tmp 6), none⟩, .p) <| .c (⟨some 49, .move (.tmp 6), none⟩, .p) <| .c (⟨some 50, .fieldAddr 73 (.tmp 10) 0, none⟩, .p) <| .c (⟨some 51, .load 3 (.tmp 50), none⟩, .l) <| .c (⟨some 52, .indexAddr 22 (.tmp 49) (.tmp 51), none⟩, .p) <| .c (⟨some 53, .load 31 (.tmp 52), none⟩, .l) <| .c (⟨some 54, .move (.tmp 6), none⟩, .p) <| .c (⟨some 55, .fieldAddr 73 (.tmp 10) 1, none⟩, .p) <| .c (⟨some 56, .load 3 (.tmp 55), none⟩, .l) <| .c (⟨some 57, .indexAddr 22 (.tmp 54) (.tmp 56), none⟩, .p) <| .c (⟨some 58, .load 31 (.tmp 57), none⟩, .l) <| .c (⟨some 59, .call { callee := .value (.func 42), args := #[.tmp 53, .tmp 58], argTypes := #[31, 31] }, none⟩, .f) <| .c (⟨some 60, .buildSlice 22 1 #[(0, .tmp 59)], none⟩, .f) <| .c (⟨some 61, .call { callee := .builtin .append, args := #[.tmp 48, .tmp 60], argTypes := #[22, 22] }, none⟩, .f) <| .c (⟨some 6, .assign (.tmp 61), none⟩, .p) <| .n) Q a) : LI Try.prog h0 L (.raw (.region id rg27_0 true)) Q a :=
  LI_draw (.c (0, .p) <| .c (1, .p) <| .c (2, .p) <| .c (3, .l) <| .c (4, .p) <| .c (5, .l) <| .c (6, .p) <| .c (7, .p) <| .c (8, .l) <| .c (9, .p) <| .c (10, .l) <| .c (11, .f) <| .c (12, .f) <| .c (13, .f) <| .c (14, .p) <| .n) [11, 12, 13] (by kernel_rfl) (by kernel_rfl) (by kernel_rfl) H
theorem dr27_0 (m : Nat) {Q : Exit → List AV → AH → Prop} {a : List AV} {h : AH} {id : Nat} (H : AX Try.prog m h [(⟨some 48, .move (.tmp 6), none⟩, true),
  (⟨some 49, .move (.tmp 6), none⟩, true),
  (⟨some 50, .fieldAddr 73 (.tmp 10) 0, none⟩, true),
  (⟨some 51, .load 3 (.tmp 50), none⟩, true),
  (⟨some 52, .indexAddr 22 (.tmp 49) (.tmp 51), none⟩, true),
  (⟨some 53, .load 31 (.tmp 52), none⟩, true),
  (⟨some 54, .move (.tmp 6), none⟩, true),
  (⟨some 55, .fieldAddr 73 (.tmp 10) 1, none⟩, true),
  (⟨some 56, .load 3 (.tmp 55), none⟩, true),
  (⟨some 57, .indexAddr 22 (.tmp 54) (.tmp 56), none⟩, true),
  (⟨some 58, .load 31 (.tmp 57), none⟩, true),
  (⟨some 59, .call { callee := .value (.func 42), args := #[.tmp 53, .tmp 58], argTypes := #[31, 31] }, none⟩, false),
  (⟨some 60, .buildSlice 22 1 #[(0, .tmp 59)], none⟩, false),
  (⟨some 61, .call { callee := .builtin .append, args := #[.tmp 48, .tmp 60], argTypes := #[22, 22] }, none⟩, false),
  (⟨some 6, .assign (.tmp 61), none⟩, true)] (fun a' h' => Q .normal a' h') a h) : AI Try.prog (.raw (.region id rg27_0 true)) Q a h :=
  AI_draw [(0, true), (1, true), (2, true), (3, true), (4, true), (5, true), (6, true), (7, true), (8, true), (9, true), (10, true), (11, false), (12, false), (13, false), (14, true)] m (by kernel_rfl) (by kernel_rfl) (by kernel_rfl) H

/-- laws.toStep -/
def c79 : IC :=
  (.seq
  (.reg [
    ⟨some 1, .box 90 (.tmp 0), none⟩,
    ⟨some 2, .alloc 73, none⟩])
  (.seq
  (.reg [
    ⟨some 3, .alloc 73, none⟩])
  (.seq
  (.reg [
    ⟨some 4, .fieldAddr 90 (.tmp 1) 0, none⟩,
    ⟨some 5, .load 3 (.tmp 4), none⟩,
    ⟨some 6, .fieldAddr 73 (.tmp 3) 0, none⟩,
    ⟨none, .store 3 (.tmp 6) (.tmp 5), none⟩])
  (.seq
  (.reg [
    ⟨some 7, .fieldAddr 90 (.tmp 1) 1, none⟩,
    ⟨some 8, .load 3 (.tmp 7), none⟩,
    ⟨some 9, .fieldAddr 73 (.tmp 3) 1, none⟩,
    ⟨none, .store 3 (.tmp 9) (.tmp 8), none⟩])
  (.seq
  (.reg [
    ⟨some 10, .load 73 (.tmp 3), none⟩,
    ⟨none, .store 73 (.tmp 2) (.tmp 10), none⟩])
  .ret)))))
theorem hd79 : Try.f79.body.map dec = some c79 := by kernel_rfl
theorem e79 {R : AV → AH → Prop} {h : AH} (x0 : AV) (H : h.wf → AI Try.prog c79 (RetQ Try.prog [.cell 2 73] R) [x0, un, un, un, un, un, un, un, un, un, un] h) : AC Try.prog 79 [x0] h R :=
  AC_of' (rs := [.cell 2 73]) Try.func79 (by kernel_rfl) hd79 Try.ntmps79 rfl H

/-- laws.toStepS -/
def c60 : IC :=
  (.seq
  (.reg [
    ⟨some 2, .assign (.const (.slice none 0 0)), none⟩])
  (.seq
  (.reg [
    ⟨some 5, .move (.tmp 0), none⟩,
    ⟨some 6, .call { callee := .builtin .len, args := #[.tmp 5], argTypes := #[43] }, none⟩,
    ⟨some 7, .makeSlice 49 (.tmp 6) (.tmp 6), none⟩,
    ⟨some 3, .assign (.tmp 7), none⟩])
  (.seq
  (.seq
  (.reg [
    ⟨some 4, .assign (.const (.int .i64 0)), none⟩])
  (.block 0
  (.loop
    (.seq
    (.seq
    (.reg [
      ⟨some 8, .move (.tmp 4), none⟩,
      ⟨some 9, .move (.tmp 0), none⟩,
      ⟨some 10, .call { callee := .builtin .len, args := #[.tmp 9], argTypes := #[43] }, none⟩,
      ⟨some 11, .binOp .lss 3 (.tmp 8) (.tmp 10) 3, none⟩])
    (.cond (.tmp 11)
      .skip
      (.exit 0)))
    (.seq
    (.block 1
    (.reg [
      ⟨some 14, .move (.tmp 3), none⟩,
      ⟨some 15, .move (.tmp 4), none⟩,
      ⟨some 16, .move (.tmp 0), none⟩,
      ⟨some 17, .move (.tmp 4), none⟩,
      ⟨some 18, .indexAddr 43 (.tmp 16) (.tmp 17), none⟩,
      ⟨some 19, .load 90 (.tmp 18), none⟩,
      ⟨some 20, .call { callee := .value (.func 79), args := #[.tmp 19], argTypes := #[90] }, none⟩,
      ⟨some 21, .indexAddr 49 (.tmp 14) (.tmp 15), none⟩,
      ⟨none, .store 73 (.tmp 21) (.tmp 20), none⟩]))
    (.reg [
      ⟨some 12, .move (.tmp 4), none⟩,
      ⟨some 13, .binOp .add 3 (.tmp 12) (.const (.int .i64 1)) 3, none⟩,
      ⟨some 4, .assign (.tmp 13), none⟩]))))))
  (.seq
  (.reg [
    ⟨some 22, .move (.tmp 3), none⟩,
    ⟨some 2, .assign (.tmp 22), none⟩])
  .ret))))
theorem hd60 : Try.f60.body.map dec = some c60 := by kernel_rfl
theorem e60 {R : AV → AH → Prop} {h : AH} (x0 : AV) (H : h.wf → AI Try.prog c60 (RetQ Try.prog [.tmp 2] R) [x0, un, un, un, un, un, un, un, un, un, un, un, un, un, un, un, un, un, un, un, un, un, un] h) : AC Try.prog 60 [x0] h R :=
  AC_of' (rs := [.tmp 2]) Try.func60 (by kernel_rfl) hd60 Try.ntmps60 rfl H

/-- laws.toPlan -/
def c28 : IC :=
  (.seq
  (.reg [
    ⟨some 1, .box 45 (.tmp 0), none⟩,
    ⟨some 2, .alloc 51, none⟩])
  (.seq
  (.reg [
    ⟨some 3, .alloc 51, none⟩])
  (.seq
  (.reg [
    ⟨some 4, .fieldAddr 45 (.tmp 1) 0, none⟩,
    ⟨some 5, .load 3 (.tmp 4), none⟩,
    ⟨some 6, .fieldAddr 51 (.tmp 3) 0, none⟩,
    ⟨none, .store 3 (.tmp 6) (.tmp 5), none⟩])
  (.seq
  (.reg [
    ⟨some 7, .fieldAddr 45 (.tmp 1) 1, none⟩,
    ⟨some 8, .load 43 (.tmp 7), none⟩,
    ⟨some 9, .call { callee := .value (.func 60), args := #[.tmp 8], argTypes := #[43] }, none⟩,
    ⟨some 10, .fieldAddr 51 (.tmp 3) 1, none⟩,
    ⟨none, .store 49 (.tmp 10) (.tmp 9), none⟩])
  (.seq
  (.reg [
    ⟨some 11, .fieldAddr 45 (.tmp 1) 2, none⟩,
    ⟨some 12, .load 31 (.tmp 11), none⟩,
    ⟨some 13, .call { callee := .value (.func 35), args := #[.tmp 12], argTypes := #[31] }, none⟩,
    ⟨some 14, .fieldAddr 51 (.tmp 3) 2, none⟩,
    ⟨none, .store 31 (.tmp 14) (.tmp 13), none⟩])
  (.seq
  (.reg [
    ⟨some 15, .load 51 (.tmp 3), none⟩,
    ⟨none, .store 51 (.tmp 2) (.tmp 15), none⟩])
  .ret))))))
theorem hd28 : Try.f28.body.map dec = some c28 := by kernel_rfl
theorem e28 {R : AV → AH → Prop} {h : AH} (x0 : AV) (H : h.wf → AI Try.prog c28 (RetQ Try.prog [.cell 2 51] R) [x0, un, un, un, un, un, un, un, un, un, un, un, un, un, un, un] h) : AC Try.prog 28 [x0] h R :=
  AC_of' (rs := [.cell 2 51]) Try.func28 (by kernel_rfl) hd28 Try.ntmps28 rfl H

/-- slices.IndexFunc[[][]int,[]int] -/
def c87 : IC :=
  (.seq
  (.reg [
    ⟨some 4, .assign (.const (.int .i64 0)), none⟩])
  (.seq
  (.seq
  (.reg [
    ⟨some 6, .move (.tmp 0), none⟩,
    ⟨some 7, .call { callee := .builtin .len, args := #[.tmp 6], argTypes := #[22] }, none⟩,
    ⟨some 8, .move (.const (.int .i64 0)), none⟩])
  (.block 0
  (.loop
    (.seq
    (.reg [
      ⟨some 9, .binOp .lss 3 (.tmp 8) (.tmp 7) 3, none⟩])
    (.seq
    (.cond (.tmp 9)
      .skip
      (.exit 0))
    (.seq
    (.block 1
    (.seq
    (.reg [
      ⟨some 10, .move (.tmp 8), none⟩,
      ⟨some 5, .assign (.tmp 10), none⟩])
    (.seq
    (.reg [
      ⟨some 11, .move (.tmp 1), none⟩,
      ⟨some 12, .move (.tmp 0), none⟩,
      ⟨some 13, .move (.tmp 5), none⟩,
      ⟨some 14, .indexAddr 22 (.tmp 12) (.tmp 13), none⟩,
      ⟨some 15, .load 31 (.tmp 14), none⟩,
      ⟨some 16, .call { callee := .value (.tmp 11), args := #[.tmp 15], argTypes := #[31] }, none⟩])
    (.cond (.tmp 16)
      (.seq
      (.reg [
        ⟨some 17, .move (.tmp 5), none⟩,
        ⟨some 4, .assign (.tmp 17), none⟩])
      .ret)
      .skip))))
    (.reg [
      ⟨some 18, .binOp .add 3 (.tmp 8) (.const (.int .i64 1)) 3, none⟩,
      ⟨some 8, .move (.tmp 18), none⟩])))))))
  (.seq
  (.reg [
    ⟨some 4, .assign (.const (.int .i64 (-1))), none⟩])
  .ret)))
theorem hd87 : Try.f87.body.map dec = some c87 := by kernel_rfl
theorem e87 {R : AV → AH → Prop} {h : AH} (x0 x1 : AV) (H : h.wf → AI Try.prog c87 (RetQ Try.prog [.tmp 4] R) [x0, x1, un, un, un, un, un, un, un, un, un, un, un, un, un, un, un, un, un] h) : AC Try.prog 87 [x0, x1] h R :=
  AC_of' (rs := [.tmp 4]) Try.func87 (by kernel_rfl) hd87 Try.ntmps87 rfl H

/-- slices.ContainsFunc[[][]int,[]int] -/
def c69 : IC :=
  (.seq
  (.reg [
    ⟨some 4, .assign (.const (.bool false)), none⟩])
  (.seq
  (.reg [
    ⟨some 5, .move (.tmp 0), none⟩,
    ⟨some 6, .move (.tmp 1), none⟩,
    ⟨some 7, .call { callee := .value (.func 87), args := #[.tmp 5, .tmp 6], argTypes := #[22, 37] }, none⟩,
    ⟨some 8, .binOp .geq 3 (.tmp 7) (.const (.int .i64 0)) 3, none⟩,
    ⟨some 4, .assign (.tmp 8), none⟩])
  .ret))
theorem hd69 : Try.f69.body.map dec = some c69 := by kernel_rfl
theorem e69 {R : AV → AH → Prop} {h : AH} (x0 x1 : AV) (H : h.wf → AI Try.prog c69 (RetQ Try.prog [.tmp 4] R) [x0, x1, un, un, un, un, un, un, un] h) : AC Try.prog 69 [x0, x1] h R :=
  AC_of' (rs := [.tmp 4]) Try.func69 (by kernel_rfl) hd69 Try.ntmps69 rfl H

/-- impl.in -/
def c49 : IC :=
  (.seq
  (.reg [
    ⟨some 6, .assign (.const (.bool false)), none⟩])
  (.seq
  (.reg [
    ⟨some 7, .move (.tmp 0), none⟩,
    ⟨some 8, .move (.tmp 1), none⟩,
    ⟨some 9, .binOp .geq 3 (.tmp 7) (.tmp 8) 3, none⟩,
    ⟨some 10, .move (.tmp 9), none⟩,
    ⟨some 11, .move (.tmp 0), some (10, true)⟩,
    ⟨some 12, .move (.tmp 2), some (10, true)⟩,
    ⟨some 13, .binOp .leq 3 (.tmp 11) (.tmp 12) 3, some (10, true)⟩,
    ⟨some 14, .pick (.tmp 10) (.tmp 13) (.const (.bool false)), none⟩,
    ⟨some 6, .assign (.tmp 14), none⟩])
  .ret))
theorem hd49 : Try.f49.body.map dec = some c49 := by kernel_rfl
theorem e49 {R : AV → AH → Prop} {h : AH} (x0 x1 x2 : AV) (H : h.wf → AI Try.prog c49 (RetQ Try.prog [.tmp 6] R) [x0, x1, x2, un, un, un, un, un, un, un, un, un, un, un, un] h) : AC Try.prog 49 [x0, x1, x2] h R :=
  AC_of' (rs := [.tmp 6]) Try.func49 (by kernel_rfl) hd49 Try.ntmps49 rfl H

noncomputable def rg44_0 : Array Oper := rawAt Try.f44 0
/-- slices.Equal[[]int,int] -/
noncomputable def c44 : IC :=
  (.seq
  (.reg [
    ⟨some 4, .assign (.const (.bool false)), none⟩])
  (.seq
  (.seq
  (.reg [
    ⟨some 6, .move (.tmp 0), none⟩,
    ⟨some 7, .call { callee := .builtin .len, args := #[.tmp 6], argTypes := #[31] }, none⟩,
    ⟨some 8, .move (.tmp 1), none⟩,
    ⟨some 9, .call { callee := .builtin .len, args := #[.tmp 8], argTypes := #[31] }, none⟩,
    ⟨some 10, .binOp .neq 3 (.tmp 7) (.tmp 9) 3, none⟩])
  (.cond (.tmp 10)
    (.seq
    (.reg [
      ⟨some 4, .assign (.const (.bool false)), none⟩])
    .ret)
    .skip))
  (.seq
  (.seq
  (.reg [
    ⟨some 11, .move (.tmp 0), none⟩,
    ⟨some 12, .call { callee := .builtin .len, args := #[.tmp 11], argTypes := #[31] }, none⟩,
    ⟨some 13, .move (.const (.int .i64 0)), none⟩])
  (.block 0
  (.loop
    (.seq
    (.reg [
      ⟨some 14, .binOp .lss 3 (.tmp 13) (.tmp 12) 3, none⟩])
    (.seq
    (.cond (.tmp 14)
      .skip
      (.exit 0))
    (.seq
    (.block 1
    (.seq
    (.reg [
      ⟨some 15, .move (.tmp 13), none⟩,
      ⟨some 5, .assign (.tmp 15), none⟩])
    (.seq
    (.raw (.region 6 rg44_0 true))
    (.cond (.tmp 24)
      (.seq
      (.reg [
        ⟨some 4, .assign (.const (.bool false)), none⟩])
      .ret)
      .skip))))
    (.reg [
      ⟨some 25, .binOp .add 3 (.tmp 13) (.const (.int .i64 1)) 3, none⟩,
      ⟨some 13, .move (.tmp 25), none⟩])))))))
  (.seq
  (.reg [
    ⟨some 4, .assign (.const (.bool true)), none⟩])
  .ret))))
theorem hd44 : Try.f44.body.map dec = some c44 := by kernel_rfl
theorem e44 {R : AV → AH → Prop} {h : AH} (x0 x1 : AV) (H : h.wf → AI Try.prog c44 (RetQ Try.prog [.tmp 4] R) [x0, x1, un, un, un, un, un, un, un, un, un, un, un, un, un, un, un, un, un, un, un, un, un, un, un, un] h) : AC Try.prog 44 [x0, x1] h R :=
  AC_of' (rs := [.tmp 4]) Try.func44 (by kernel_rfl) hd44 Try.ntmps44 rfl H
theorem dz44_0 {h0 : AH} {L : List It} {Q : Exit → List AV → List It → Prop} {a : List AV} {id : Nat} (H : LX Try.prog ⟨[], []⟩ h0 L L (.c (⟨some 16, .move (.tmp 0), none⟩, .p) <| .c (⟨some 17, .move (.tmp 5), none⟩, .p) <| .c (⟨some 18, .indexAddr 31 (.tmp 16) (.tmp 17), none⟩, .p) <| .c (⟨some 19, .load 3 (.tmp 18), none⟩, .l) <| .c (⟨some 20, .move (.tmp 1), none⟩, .p) <| .c (⟨some 21, .move (.tmp 5), none⟩, .p) <| .c (⟨some 22, .indexAddr 31 (.tmp 20) (.tmp 21), none⟩, .p) <| .c (⟨some 23, .load 3 (.tmp 22), none⟩, .l) <| .c (⟨some 24, .binOp .neq 3 (.tmp 19) (.tmp 23) 3, none⟩, .p) <| .n) Q a) : LI Try.prog h0 L (.raw (.region id rg44_0 true)) Q a :=
  LI_draw (.c (0, .p) <| .c (1, .p) <| .c (2, .p) <| .c (3, .l) <| .c (4, .p) <| .c (5, .p) <| .c (6, .p) <| .c (7, .l) <| .c (8, .p) <| .n) [] (by kernel_rfl) (by kernel_rfl) (by kernel_rfl) H
theorem dr44_0 (m : Nat) {Q : Exit → List AV → AH → Prop} {a : List AV} {h : AH} {id : Nat} (H : AX Try.prog m h [(⟨some 16, .move (.tmp 0), none⟩, true),
  (⟨some 17, .move (.tmp 5), none⟩, true),
  (⟨some 18, .indexAddr 31 (.tmp 16) (.tmp 17), none⟩, true),
  (⟨some 19, .load 3 (.tmp 18), none⟩, true),
  (⟨some 20, .move (.tmp 1), none⟩, true),
  (⟨some 21, .move (.tmp 5), none⟩, true),
  (⟨some 22, .indexAddr 31 (.tmp 20) (.tmp 21), none⟩, true),
  (⟨some 23, .load 3 (.tmp 22), none⟩, true),
  (⟨some 24, .binOp .neq 3 (.tmp 19) (.tmp 23) 3, none⟩, true)] (fun a' h' => Q .normal a' h') a h) : AI Try.prog (.raw (.region id rg44_0 true)) Q a h :=
  AI_draw [(0, true), (1, true), (2, true), (3, true), (4, true), (5, true), (6, true), (7, true), (8, true)] m (by kernel_rfl) (by kernel_rfl) (by kernel_rfl) H

/-- impl.firsts -/
def c54 : IC :=
  (.seq
  (.reg [
    ⟨some 2, .assign (.const (.slice none 0 0)), none⟩])
  (.seq
  (.reg [
    ⟨some 5, .buildSlice 31 0 #[], none⟩,
    ⟨some 3, .assign (.tmp 5), none⟩])
  (.seq
  (.seq
  (.reg [
    ⟨some 6, .move (.tmp 0), none⟩,
    ⟨some 7, .move (.const (.int .i64 0)), none⟩])
  (.block 0
  (.loop
    (.seq
    (.reg [
      ⟨some 8, .binOp .lss 3 (.tmp 7) (.tmp 6) 3, none⟩])
    (.seq
    (.cond (.tmp 8)
      .skip
      (.exit 0))
    (.seq
    (.block 1
    (.seq
    (.reg [
      ⟨some 9, .move (.tmp 7), none⟩,
      ⟨some 4, .assign (.tmp 9), none⟩])
    (.reg [
      ⟨some 10, .move (.tmp 3), none⟩,
      ⟨some 11, .move (.tmp 4), none⟩,
      ⟨some 12, .buildSlice 31 1 #[(0, .tmp 11)], none⟩,
      ⟨some 13, .call { callee := .builtin .append, args := #[.tmp 10, .tmp 12], argTypes := #[31, 31] }, none⟩,
      ⟨some 3, .assign (.tmp 13), none⟩])))
    (.reg [
      ⟨some 14, .binOp .add 3 (.tmp 7) (.const (.int .i64 1)) 3, none⟩,
      ⟨some 7, .move (.tmp 14), none⟩])))))))
  (.seq
  (.reg [
    ⟨some 15, .move (.tmp 3), none⟩,
    ⟨some 2, .assign (.tmp 15), none⟩])
  .ret))))
theorem hd54 : Try.f54.body.map dec = some c54 := by kernel_rfl
theorem e54 {R : AV → AH → Prop} {h : AH} (x0 : AV) (H : h.wf → AI Try.prog c54 (RetQ Try.prog [.tmp 2] R) [x0, un, un, un, un, un, un, un, un, un, un, un, un, un, un, un] h) : AC Try.prog 54 [x0] h R :=
  AC_of' (rs := [.tmp 2]) Try.func54 (by kernel_rfl) hd54 Try.ntmps54 rfl H

-- slices.AppendSeq[[]int,int] ranges over a function

/-- slices.Collect[int] -/
def c89 : IC :=
  (.seq
  (.reg [
    ⟨some 2, .assign (.const (.slice none 0 0)), none⟩])
  (.seq
  (.reg [
    ⟨some 3, .move (.tmp 0), none⟩,
    ⟨some 4, .call { callee := .value (.func 96), args := #[.const (.slice none 0 0), .tmp 3], argTypes := #[31, 85] }, none⟩,
    ⟨some 2, .assign (.tmp 4), none⟩])
  .ret))
theorem hd89 : Try.f89.body.map dec = some c89 := by kernel_rfl
theorem e89 {R : AV → AH → Prop} {h : AH} (x0 : AV) (H : h.wf → AI Try.prog c89 (RetQ Try.prog [.tmp 2] R) [x0, un, un, un, un] h) : AC Try.prog 89 [x0] h R :=
  AC_of' (rs := [.tmp 2]) Try.func89 (by kernel_rfl) hd89 Try.ntmps89 rfl H

/-- slices.Sort[[]int,int] -/
def c90 : IC :=
  (.seq
  (.reg [
    ⟨some 3, .move (.tmp 0), none⟩,
    ⟨some 4, .call { callee := .builtin .len, args := #[.tmp 3], argTypes := #[31] }, none⟩,
    ⟨some 2, .assign (.tmp 4), none⟩])
  (.reg [
    ⟨some 5, .move (.tmp 0), none⟩,
    ⟨some 6, .move (.tmp 2), none⟩,
    ⟨some 7, .move (.tmp 2), none⟩,
    ⟨some 8, .convert 3 97 (.tmp 7), none⟩,
    ⟨some 9, .call { callee := .value (.func 98), args := #[.tmp 8], argTypes := #[97] }, none⟩,
    ⟨some 10, .call { callee := .value (.func 97), args := #[.tmp 5, .const (.int .i64 0), .tmp 6, .tmp 9], argTypes := #[31, 3, 3, 3] }, none⟩]))
theorem hd90 : Try.f90.body.map dec = some c90 := by kernel_rfl
theorem e90 {R : AV → AH → Prop} {h : AH} (x0 : AV) (H : h.wf → AI Try.prog c90 (RetQ Try.prog [] R) [x0, un, un, un, un, un, un, un, un, un, un] h) : AC Try.prog 90 [x0] h R :=
  AC_of' (rs := []) Try.func90 (by kernel_rfl) hd90 Try.ntmps90 rfl H

/-- slices.Sorted[int] -/
def c74 : IC :=
  (.seq
  (.reg [
    ⟨some 2, .assign (.const (.slice none 0 0)), none⟩])
  (.seq
  (.reg [
    ⟨some 4, .move (.tmp 0), none⟩,
    ⟨some 5, .call { callee := .value (.func 89), args := #[.tmp 4], argTypes := #[85] }, none⟩,
    ⟨some 3, .assign (.tmp 5), none⟩])
  (.seq
  (.reg [
    ⟨some 6, .move (.tmp 3), none⟩,
    ⟨some 7, .call { callee := .value (.func 90), args := #[.tmp 6], argTypes := #[31] }, none⟩])
  (.seq
  (.reg [
    ⟨some 8, .move (.tmp 3), none⟩,
    ⟨some 2, .assign (.tmp 8), none⟩])
  .ret))))
theorem hd74 : Try.f74.body.map dec = some c74 := by kernel_rfl
theorem e74 {R : AV → AH → Prop} {h : AH} (x0 : AV) (H : h.wf → AI Try.prog c74 (RetQ Try.prog [.tmp 2] R) [x0, un, un, un, un, un, un, un, un] h) : AC Try.prog 74 [x0] h R :=
  AC_of' (rs := [.tmp 2]) Try.func74 (by kernel_rfl) hd74 Try.ntmps74 rfl H

/-- slices.Values[[]int,int]$1 -/
def c91 : IC :=
  (.seq
  (.reg [
    ⟨some 5, .load 31 (.tmp 1), none⟩,
    ⟨some 6, .call { callee := .builtin .len, args := #[.tmp 5], argTypes := #[31] }, none⟩,
    ⟨some 7, .move (.const (.int .i64 0)), none⟩])
  (.block 0
  (.loop
    (.seq
    (.reg [
      ⟨some 8, .binOp .lss 3 (.tmp 7) (.tmp 6) 3, none⟩])
    (.seq
    (.cond (.tmp 8)
      .skip
      (.exit 0))
    (.seq
    (.block 1
    (.seq
    (.reg [
      ⟨some 9, .indexAddr 31 (.tmp 5) (.tmp 7), none⟩,
      ⟨some 10, .load 3 (.tmp 9), none⟩,
      ⟨some 4, .assign (.tmp 10), none⟩])
    (.seq
    (.reg [
      ⟨some 11, .move (.tmp 0), none⟩,
      ⟨some 12, .move (.tmp 4), none⟩,
      ⟨some 13, .call { callee := .value (.tmp 11), args := #[.tmp 12], argTypes := #[3] }, none⟩,
      ⟨some 14, .unOp .not 4 (.tmp 13), none⟩])
    (.cond (.tmp 14)
      .ret
      .skip))))
    (.reg [
      ⟨some 15, .binOp .add 3 (.tmp 7) (.const (.int .i64 1)) 3, none⟩,
      ⟨some 7, .move (.tmp 15), none⟩])))))))
theorem hd91 : Try.f91.body.map dec = some c91 := by kernel_rfl
theorem e91 {R : AV → AH → Prop} {h : AH} (x0 x1 : AV) (H : h.wf → AI Try.prog c91 (RetQ Try.prog [] R) [x0, x1, un, un, un, un, un, un, un, un, un, un, un, un, un, un] h) : AC Try.prog 91 [x0, x1] h R :=
  AC_of' (rs := []) Try.func91 (by kernel_rfl) hd91 Try.ntmps91 rfl H

/-- slices.Values[[]int,int] -/
def c75 : IC :=
  (.seq
  (.reg [
    ⟨some 1, .box 31 (.tmp 0), none⟩,
    ⟨some 2, .assign (.const .nilFunc), none⟩])
  (.seq
  (.reg [
    ⟨some 3, .makeFunc (.func 91) #[] #[.tmp 1], none⟩,
    ⟨some 2, .assign (.tmp 3), none⟩])
  .ret))
theorem hd75 : Try.f75.body.map dec = some c75 := by kernel_rfl
theorem e75 {R : AV → AH → Prop} {h : AH} (x0 : AV) (H : h.wf → AI Try.prog c75 (RetQ Try.prog [.tmp 2] R) [x0, un, un, un] h) : AC Try.prog 75 [x0] h R :=
  AC_of' (rs := [.tmp 2]) Try.func75 (by kernel_rfl) hd75 Try.ntmps75 rfl H

/-- impl.isOrder -/
def c50 : IC :=
  (.seq
  (.reg [
    ⟨some 4, .assign (.const (.bool false)), none⟩])
  (.seq
  (.reg [
    ⟨some 5, .move (.tmp 0), none⟩,
    ⟨some 6, .call { callee := .value (.func 75), args := #[.tmp 5], argTypes := #[31] }, none⟩,
    ⟨some 7, .call { callee := .value (.func 74), args := #[.tmp 6], argTypes := #[85] }, none⟩,
    ⟨some 8, .move (.tmp 1), none⟩,
    ⟨some 9, .call { callee := .value (.func 54), args := #[.tmp 8], argTypes := #[3] }, none⟩,
    ⟨some 10, .call { callee := .value (.func 44), args := #[.tmp 7, .tmp 9], argTypes := #[31, 31] }, none⟩,
    ⟨some 4, .assign (.tmp 10), none⟩])
  .ret))
theorem hd50 : Try.f50.body.map dec = some c50 := by kernel_rfl
theorem e50 {R : AV → AH → Prop} {h : AH} (x0 x1 : AV) (H : h.wf → AI Try.prog c50 (RetQ Try.prog [.tmp 4] R) [x0, x1, un, un, un, un, un, un, un, un, un] h) : AC Try.prog 50 [x0, x1] h R :=
  AC_of' (rs := [.tmp 4]) Try.func50 (by kernel_rfl) hd50 Try.ntmps50 rfl H

/-- impl.IsPermutation -/
def c20 : IC :=
  (.seq
  (.reg [
    ⟨some 2, .assign (.const (.bool false)), none⟩])
  (.seq
  (.reg [
    ⟨some 3, .move (.tmp 0), none⟩,
    ⟨some 4, .call { callee := .builtin .len, args := #[.tmp 3], argTypes := #[31] }, none⟩,
    ⟨some 5, .call { callee := .value (.func 49), args := #[.tmp 4, .const (.int .i64 1), .const (.int .i64 8)], argTypes := #[3, 3, 3] }, none⟩,
    ⟨some 6, .move (.tmp 5), none⟩,
    ⟨some 7, .move (.tmp 0), some (6, true)⟩,
    ⟨some 8, .move (.tmp 0), some (6, true)⟩,
    ⟨some 9, .call { callee := .builtin .len, args := #[.tmp 8], argTypes := #[31] }, some (6, true)⟩,
    ⟨some 10, .call { callee := .value (.func 50), args := #[.tmp 7, .tmp 9], argTypes := #[31, 3] }, some (6, true)⟩,
    ⟨some 11, .pick (.tmp 6) (.tmp 10) (.const (.bool false)), none⟩,
    ⟨some 2, .assign (.tmp 11), none⟩])
  .ret))
theorem hd20 : Try.f20.body.map dec = some c20 := by kernel_rfl
theorem e20 {R : AV → AH → Prop} {h : AH} (x0 : AV) (H : h.wf → AI Try.prog c20 (RetQ Try.prog [.tmp 2] R) [x0, un, un, un, un, un, un, un, un, un, un, un] h) : AC Try.prog 20 [x0] h R :=
  AC_of' (rs := [.tmp 2]) Try.func20 (by kernel_rfl) hd20 Try.ntmps20 rfl H

/-- impl.alike$1 -/
def c70 : IC :=
  (.seq
  (.reg [
    ⟨some 3, .assign (.const (.bool false)), none⟩])
  (.seq
  (.reg [
    ⟨some 4, .move (.tmp 0), none⟩,
    ⟨some 5, .call { callee := .value (.func 20), args := #[.tmp 4], argTypes := #[31] }, none⟩,
    ⟨some 6, .unOp .not 4 (.tmp 5), none⟩,
    ⟨some 7, .move (.tmp 6), none⟩,
    ⟨some 8, .move (.tmp 0), some (7, false)⟩,
    ⟨some 9, .call { callee := .builtin .len, args := #[.tmp 8], argTypes := #[31] }, some (7, false)⟩,
    ⟨some 10, .load 22 (.tmp 1), some (7, false)⟩,
    ⟨some 11, .indexAddr 22 (.tmp 10) (.const (.int .i64 0)), some (7, false)⟩,
    ⟨some 12, .load 31 (.tmp 11), some (7, false)⟩,
    ⟨some 13, .call { callee := .builtin .len, args := #[.tmp 12], argTypes := #[31] }, some (7, false)⟩,
    ⟨some 14, .binOp .neq 3 (.tmp 9) (.tmp 13) 3, some (7, false)⟩,
    ⟨some 15, .pick (.tmp 7) (.const (.bool true)) (.tmp 14), none⟩,
    ⟨some 3, .assign (.tmp 15), none⟩])
  .ret))
theorem hd70 : Try.f70.body.map dec = some c70 := by kernel_rfl
theorem e70 {R : AV → AH → Prop} {h : AH} (x0 x1 : AV) (H : h.wf → AI Try.prog c70 (RetQ Try.prog [.tmp 3] R) [x0, x1, un, un, un, un, un, un, un, un, un, un, un, un, un, un] h) : AC Try.prog 70 [x0, x1] h R :=
  AC_of' (rs := [.tmp 3]) Try.func70 (by kernel_rfl) hd70 Try.ntmps70 rfl H

/-- impl.alike -/
def c43 : IC :=
  (.seq
  (.reg [
    ⟨some 1, .box 22 (.tmp 0), none⟩,
    ⟨some 2, .assign (.const (.bool false)), none⟩])
  (.seq
  (.reg [
    ⟨some 3, .load 22 (.tmp 1), none⟩,
    ⟨some 4, .makeFunc (.func 70) #[] #[.tmp 1], none⟩,
    ⟨some 5, .call { callee := .value (.func 69), args := #[.tmp 3, .tmp 4], argTypes := #[22, 37] }, none⟩,
    ⟨some 6, .unOp .not 4 (.tmp 5), none⟩,
    ⟨some 2, .assign (.tmp 6), none⟩])
  .ret))
theorem hd43 : Try.f43.body.map dec = some c43 := by kernel_rfl
theorem e43 {R : AV → AH → Prop} {h : AH} (x0 : AV) (H : h.wf → AI Try.prog c43 (RetQ Try.prog [.tmp 2] R) [x0, un, un, un, un, un, un] h) : AC Try.prog 43 [x0] h R :=
  AC_of' (rs := [.tmp 2]) Try.func43 (by kernel_rfl) hd43 Try.ntmps43 rfl H

/-- impl.renamed -/
def c71 : IC :=
  (.seq
  (.reg [
    ⟨some 4, .assign (.const (.slice none 0 0)), none⟩])
  (.seq
  (.reg [
    ⟨some 8, .buildSlice 31 0 #[], none⟩,
    ⟨some 5, .assign (.tmp 8), none⟩])
  (.seq
  (.seq
  (.reg [
    ⟨some 9, .move (.tmp 0), none⟩,
    ⟨some 10, .call { callee := .builtin .len, args := #[.tmp 9], argTypes := #[31] }, none⟩,
    ⟨some 11, .move (.const (.int .i64 0)), none⟩])
  (.block 0
  (.loop
    (.seq
    (.reg [
      ⟨some 12, .binOp .lss 3 (.tmp 11) (.tmp 10) 3, none⟩])
    (.seq
    (.cond (.tmp 12)
      .skip
      (.exit 0))
    (.seq
    (.block 1
    (.seq
    (.reg [
      ⟨some 13, .indexAddr 31 (.tmp 9) (.tmp 11), none⟩,
      ⟨some 14, .load 3 (.tmp 13), none⟩,
      ⟨some 7, .assign (.tmp 14), none⟩])
    (.reg [
      ⟨some 15, .move (.tmp 5), none⟩,
      ⟨some 16, .move (.tmp 1), none⟩,
      ⟨some 17, .move (.tmp 7), none⟩,
      ⟨some 18, .indexAddr 31 (.tmp 16) (.tmp 17), none⟩,
      ⟨some 19, .load 3 (.tmp 18), none⟩,
      ⟨some 20, .buildSlice 31 1 #[(0, .tmp 19)], none⟩,
      ⟨some 21, .call { callee := .builtin .append, args := #[.tmp 15, .tmp 20], argTypes := #[31, 31] }, none⟩,
      ⟨some 5, .assign (.tmp 21), none⟩])))
    (.reg [
      ⟨some 22, .binOp .add 3 (.tmp 11) (.const (.int .i64 1)) 3, none⟩,
      ⟨some 11, .move (.tmp 22), none⟩])))))))
  (.seq
  (.reg [
    ⟨some 23, .move (.tmp 5), none⟩,
    ⟨some 4, .assign (.tmp 23), none⟩])
  .ret))))
theorem hd71 : Try.f71.body.map dec = some c71 := by kernel_rfl
theorem e71 {R : AV → AH → Prop} {h : AH} (x0 x1 : AV) (H : h.wf → AI Try.prog c71 (RetQ Try.prog [.tmp 4] R) [x0, x1, un, un, un, un, un, un, un, un, un, un, un, un, un, un, un, un, un, un, un, un, un, un] h) : AC Try.prog 71 [x0, x1] h R :=
  AC_of' (rs := [.tmp 4]) Try.func71 (by kernel_rfl) hd71 Try.ntmps71 rfl H

/-- impl.then -/
def c45 : IC :=
  (.seq
  (.reg [
    ⟨some 4, .assign (.const (.slice none 0 0)), none⟩])
  (.seq
  (.reg [
    ⟨some 5, .move (.tmp 0), none⟩,
    ⟨some 6, .move (.tmp 1), none⟩,
    ⟨some 7, .call { callee := .value (.func 71), args := #[.tmp 5, .tmp 6], argTypes := #[31, 31] }, none⟩,
    ⟨some 4, .assign (.tmp 7), none⟩])
  .ret))
theorem hd45 : Try.f45.body.map dec = some c45 := by kernel_rfl
theorem e45 {R : AV → AH → Prop} {h : AH} (x0 x1 : AV) (H : h.wf → AI Try.prog c45 (RetQ Try.prog [.tmp 4] R) [x0, x1, un, un, un, un, un, un] h) : AC Try.prog 45 [x0, x1] h R :=
  AC_of' (rs := [.tmp 4]) Try.func45 (by kernel_rfl) hd45 Try.ntmps45 rfl H

/-- slices.IndexFunc[[]int,int] -/
def c100 : IC :=
  (.seq
  (.reg [
    ⟨some 4, .assign (.const (.int .i64 0)), none⟩])
  (.seq
  (.seq
  (.reg [
    ⟨some 6, .move (.tmp 0), none⟩,
    ⟨some 7, .call { callee := .builtin .len, args := #[.tmp 6], argTypes := #[31] }, none⟩,
    ⟨some 8, .move (.const (.int .i64 0)), none⟩])
  (.block 0
  (.loop
    (.seq
    (.reg [
      ⟨some 9, .binOp .lss 3 (.tmp 8) (.tmp 7) 3, none⟩])
    (.seq
    (.cond (.tmp 9)
      .skip
      (.exit 0))
    (.seq
    (.block 1
    (.seq
    (.reg [
      ⟨some 10, .move (.tmp 8), none⟩,
      ⟨some 5, .assign (.tmp 10), none⟩])
    (.seq
    (.reg [
      ⟨some 11, .move (.tmp 1), none⟩,
      ⟨some 12, .move (.tmp 0), none⟩,
      ⟨some 13, .move (.tmp 5), none⟩,
      ⟨some 14, .indexAddr 31 (.tmp 12) (.tmp 13), none⟩,
      ⟨some 15, .load 3 (.tmp 14), none⟩,
      ⟨some 16, .call { callee := .value (.tmp 11), args := #[.tmp 15], argTypes := #[3] }, none⟩])
    (.cond (.tmp 16)
      (.seq
      (.reg [
        ⟨some 17, .move (.tmp 5), none⟩,
        ⟨some 4, .assign (.tmp 17), none⟩])
      .ret)
      .skip))))
    (.reg [
      ⟨some 18, .binOp .add 3 (.tmp 8) (.const (.int .i64 1)) 3, none⟩,
      ⟨some 8, .move (.tmp 18), none⟩])))))))
  (.seq
  (.reg [
    ⟨some 4, .assign (.const (.int .i64 (-1))), none⟩])
  .ret)))
theorem hd100 : Try.f100.body.map dec = some c100 := by kernel_rfl
theorem e100 {R : AV → AH → Prop} {h : AH} (x0 x1 : AV) (H : h.wf → AI Try.prog c100 (RetQ Try.prog [.tmp 4] R) [x0, x1, un, un, un, un, un, un, un, un, un, un, un, un, un, un, un, un, un] h) : AC Try.prog 100 [x0, x1] h R :=
  AC_of' (rs := [.tmp 4]) Try.func100 (by kernel_rfl) hd100 Try.ntmps100 rfl H

/-- slices.ContainsFunc[[]int,int] -/
def c93 : IC :=
  (.seq
  (.reg [
    ⟨some 4, .assign (.const (.bool false)), none⟩])
  (.seq
  (.reg [
    ⟨some 5, .move (.tmp 0), none⟩,
    ⟨some 6, .move (.tmp 1), none⟩,
    ⟨some 7, .call { callee := .value (.func 100), args := #[.tmp 5, .tmp 6], argTypes := #[31, 65] }, none⟩,
    ⟨some 8, .binOp .geq 3 (.tmp 7) (.const (.int .i64 0)) 3, none⟩,
    ⟨some 4, .assign (.tmp 8), none⟩])
  .ret))
theorem hd93 : Try.f93.body.map dec = some c93 := by kernel_rfl
theorem e93 {R : AV → AH → Prop} {h : AH} (x0 x1 : AV) (H : h.wf → AI Try.prog c93 (RetQ Try.prog [.tmp 4] R) [x0, x1, un, un, un, un, un, un, un] h) : AC Try.prog 93 [x0, x1] h R :=
  AC_of' (rs := [.tmp 4]) Try.func93 (by kernel_rfl) hd93 Try.ntmps93 rfl H

noncomputable def rg95_0 : Array Oper := rawAt Try.f95 0
/-- (*impl.Plan).many -/
noncomputable def c95 : IC :=
  (.seq
  (.reg [
    ⟨some 2, .assign (.const (.int .i64 0)), none⟩])
  (.seq
  (.raw (.region 1 rg95_0 true))
  .ret))
theorem hd95 : Try.f95.body.map dec = some c95 := by kernel_rfl
theorem e95 {R : AV → AH → Prop} {h : AH} (x0 : AV) (H : h.wf → AI Try.prog c95 (RetQ Try.prog [.tmp 2] R) [x0, un, un, un, un, un, un, un, un, un, un, un, un] h) : AC Try.prog 95 [x0] h R :=
  AC_of' (rs := [.tmp 2]) Try.func95 (by kernel_rfl) hd95 Try.ntmps95 rfl H
theorem dz95_0 {h0 : AH} {L : List It} {Q : Exit → List AV → List It → Prop} {a : List AV} {id : Nat} (H : LX Try.prog ⟨[], []⟩ h0 L L (.c (⟨some 3, .move (.tmp 0), none⟩, .p) <| .c (⟨some 4, .nilCheck (.tmp 3), none⟩, .p) <| .c (⟨some 5, .fieldAddr 51 (.tmp 4) 0, none⟩, .p) <| .c (⟨some 6, .load 3 (.tmp 5), none⟩, .l) <| .c (⟨some 7, .move (.tmp 0), none⟩, .p) <| .c (⟨some 8, .nilCheck (.tmp 7), none⟩, .p) <| .c (⟨some 9, .fieldAddr 51 (.tmp 8) 1, none⟩, .p) <| .c (⟨some 10, .load 49 (.tmp 9), none⟩, .l) <| .c (⟨some 11, .call { callee := .builtin .len, args := #[.tmp 10], argTypes := #[49] }, none⟩, .p) <| .c (⟨some 12, .binOp .add 3 (.tmp 6) (.tmp 11) 3, none⟩, .p) <| .c (⟨some 2, .assign (.tmp 12), none⟩, .p) <| .n) Q a) : LI Try.prog h0 L (.raw (.region id rg95_0 true)) Q a :=
  LI_draw (.c (0, .p) <| .c (1, .p) <| .c (2, .p) <| .c (3, .l) <| .c (4, .p) <| .c (5, .p) <| .c (6, .p) <| .c (7, .l) <| .c (8, .p) <| .c (9, .p) <| .c (10, .p) <| .n) [] (by kernel_rfl) (by kernel_rfl) (by kernel_rfl) H
theorem dr95_0 (m : Nat) {Q : Exit → List AV → AH → Prop} {a : List AV} {h : AH} {id : Nat} (H : AX Try.prog m h [(⟨some 3, .move (.tmp 0), none⟩, true),
  (⟨some 4, .nilCheck (.tmp 3), none⟩, true),
  (⟨some 5, .fieldAddr 51 (.tmp 4) 0, none⟩, true),
  (⟨some 6, .load 3 (.tmp 5), none⟩, true),
  (⟨some 7, .move (.tmp 0), none⟩, true),
  (⟨some 8, .nilCheck (.tmp 7), none⟩, true),
  (⟨some 9, .fieldAddr 51 (.tmp 8) 1, none⟩, true),
  (⟨some 10, .load 49 (.tmp 9), none⟩, true),
  (⟨some 11, .call { callee := .builtin .len, args := #[.tmp 10], argTypes := #[49] }, none⟩, true),
  (⟨some 12, .binOp .add 3 (.tmp 6) (.tmp 11) 3, none⟩, true),
  (⟨some 2, .assign (.tmp 12), none⟩, true)] (fun a' h' => Q .normal a' h') a h) : AI Try.prog (.raw (.region id rg95_0 true)) Q a h :=
  AI_draw [(0, true), (1, true), (2, true), (3, true), (4, true), (5, true), (6, true), (7, true), (8, true), (9, true), (10, true)] m (by kernel_rfl) (by kernel_rfl) (by kernel_rfl) H

/-- (*impl.Plan).formed$1 -/
def c94 : IC :=
  (.seq
  (.reg [
    ⟨some 3, .assign (.const (.bool false)), none⟩])
  (.seq
  (.reg [
    ⟨some 4, .move (.tmp 0), none⟩,
    ⟨some 5, .load 76 (.tmp 1), none⟩,
    ⟨some 6, .call { callee := .value (.func 95), args := #[.tmp 5], argTypes := #[76] }, none⟩,
    ⟨some 7, .binOp .sub 3 (.tmp 6) (.const (.int .i64 1)) 3, none⟩,
    ⟨some 8, .call { callee := .value (.func 49), args := #[.tmp 4, .const (.int .i64 0), .tmp 7], argTypes := #[3, 3, 3] }, none⟩,
    ⟨some 9, .unOp .not 4 (.tmp 8), none⟩,
    ⟨some 3, .assign (.tmp 9), none⟩])
  .ret))
theorem hd94 : Try.f94.body.map dec = some c94 := by kernel_rfl
theorem e94 {R : AV → AH → Prop} {h : AH} (x0 x1 : AV) (H : h.wf → AI Try.prog c94 (RetQ Try.prog [.tmp 3] R) [x0, x1, un, un, un, un, un, un, un, un] h) : AC Try.prog 94 [x0, x1] h R :=
  AC_of' (rs := [.tmp 3]) Try.func94 (by kernel_rfl) hd94 Try.ntmps94 rfl H

noncomputable def rg80_0 : Array Oper := rawAt Try.f80 0
-- NO ORDER
/-- (*impl.Plan).formed -/
noncomputable def c80 : IC :=
  (.seq
  (.reg [
    ⟨some 1, .box 76 (.tmp 0), none⟩,
    ⟨some 2, .assign (.const (.bool false)), none⟩])
  (.seq
  (.seq
  (.reg [
    ⟨some 5, .load 76 (.tmp 1), none⟩,
    ⟨some 6, .nilCheck (.tmp 5), none⟩,
    ⟨some 7, .fieldAddr 51 (.tmp 6) 0, none⟩,
    ⟨some 8, .load 3 (.tmp 7), none⟩,
    ⟨some 9, .call { callee := .value (.func 49), args := #[.tmp 8, .const (.int .i64 1), .const (.int .i64 6)], argTypes := #[3, 3, 3] }, none⟩,
    ⟨some 10, .unOp .not 4 (.tmp 9), none⟩,
    ⟨some 11, .move (.tmp 10), none⟩,
    ⟨some 12, .load 76 (.tmp 1), some (11, false)⟩,
    ⟨some 13, .nilCheck (.tmp 12), some (11, false)⟩,
    ⟨some 14, .fieldAddr 51 (.tmp 13) 1, some (11, false)⟩,
    ⟨some 15, .load 49 (.tmp 14), some (11, false)⟩,
    ⟨some 16, .call { callee := .builtin .len, args := #[.tmp 15], argTypes := #[49] }, some (11, false)⟩,
    ⟨some 17, .binOp .gtr 3 (.tmp 16) (.const (.int .i64 40)) 3, some (11, false)⟩,
    ⟨some 18, .pick (.tmp 11) (.const (.bool true)) (.tmp 17), none⟩,
    ⟨some 19, .move (.tmp 18), none⟩,
    ⟨some 20, .load 76 (.tmp 1), some (19, false)⟩,
    ⟨some 21, .nilCheck (.tmp 20), some (19, false)⟩,
    ⟨some 22, .fieldAddr 51 (.tmp 21) 2, some (19, false)⟩,
    ⟨some 23, .load 31 (.tmp 22), some (19, false)⟩,
    ⟨some 24, .call { callee := .builtin .len, args := #[.tmp 23], argTypes := #[31] }, some (19, false)⟩,
    ⟨some 25, .binOp .gtr 3 (.tmp 24) (.const (.int .i64 6)) 3, some (19, false)⟩,
    ⟨some 26, .pick (.tmp 19) (.const (.bool true)) (.tmp 25), none⟩])
  (.cond (.tmp 26)
    (.seq
    (.reg [
      ⟨some 2, .assign (.const (.bool false)), none⟩])
    .ret)
    .skip))
  (.seq
  (.seq
  (.reg [
    ⟨some 27, .load 76 (.tmp 1), none⟩,
    ⟨some 28, .nilCheck (.tmp 27), none⟩,
    ⟨some 29, .fieldAddr 51 (.tmp 28) 1, none⟩,
    ⟨some 30, .load 49 (.tmp 29), none⟩,
    ⟨some 31, .call { callee := .builtin .len, args := #[.tmp 30], argTypes := #[49] }, none⟩,
    ⟨some 32, .move (.const (.int .i64 0)), none⟩])
  (.block 0
  (.loop
    (.seq
    (.reg [
      ⟨some 33, .binOp .lss 3 (.tmp 32) (.tmp 31) 3, none⟩])
    (.seq
    (.cond (.tmp 33)
      .skip
      (.exit 0))
    (.seq
    (.block 1
    (.seq
    (.reg [
      ⟨some 34, .move (.tmp 32), none⟩,
      ⟨some 35, .indexAddr 49 (.tmp 30) (.tmp 32), none⟩,
      ⟨some 36, .load 73 (.tmp 35), none⟩,
      ⟨some 4, .alloc 73, none⟩,
      ⟨some 3, .assign (.tmp 34), none⟩,
      ⟨none, .store 73 (.tmp 4) (.tmp 36), none⟩])
    (.seq
    (.raw (.region 6 rg80_0 true))
    (.cond (.tmp 57)
      (.seq
      (.reg [
        ⟨some 2, .assign (.const (.bool false)), none⟩])
      .ret)
      .skip))))
    (.reg [
      ⟨some 58, .binOp .add 3 (.tmp 32) (.const (.int .i64 1)) 3, none⟩,
      ⟨some 32, .move (.tmp 58), none⟩])))))))
  (.seq
  (.reg [
    ⟨some 59, .load 76 (.tmp 1), none⟩,
    ⟨some 60, .nilCheck (.tmp 59), none⟩,
    ⟨some 61, .fieldAddr 51 (.tmp 60) 2, none⟩,
    ⟨some 62, .load 31 (.tmp 61), none⟩,
    ⟨some 63, .makeFunc (.func 94) #[] #[.tmp 1], none⟩,
    ⟨some 64, .call { callee := .value (.func 93), args := #[.tmp 62, .tmp 63], argTypes := #[31, 65] }, none⟩,
    ⟨some 65, .unOp .not 4 (.tmp 64), none⟩,
    ⟨some 2, .assign (.tmp 65), none⟩])
  .ret))))
theorem hd80 : Try.f80.body.map dec = some c80 := by kernel_rfl
theorem e80 {R : AV → AH → Prop} {h : AH} (x0 : AV) (H : h.wf → AI Try.prog c80 (RetQ Try.prog [.tmp 2] R) [x0, un, un, un, un, un, un, un, un, un, un, un, un, un, un, un, un, un, un, un, un, un, un, un, un, un, un, un, un, un, un, un, un, un, un, un, un, un, un, un, un, un, un, un, un, un, un, un, un, un, un, un, un, un, un, un, un, un, un, un, un, un, un, un, un, un] h) : AC Try.prog 80 [x0] h R :=
  AC_of' (rs := [.tmp 2]) Try.func80 (by kernel_rfl) hd80 Try.ntmps80 rfl H
theorem dz80_0 {h0 : AH} {L : List It} {Q : Exit → List AV → List It → Prop} {a : List AV} {id : Nat} (H : LX Try.prog ⟨[], []⟩ h0 L L (.c (⟨some 37, .fieldAddr 73 (.tmp 4) 0, none⟩, .p) <| .c (⟨some 38, .load 3 (.tmp 37), none⟩, .l) <| .c (⟨some 39, .binOp .lss 3 (.tmp 38) (.const (.int .i64 0)) 3, none⟩, .p) <| .c (⟨some 40, .move (.tmp 39), none⟩, .p) <| .c (⟨some 41, .fieldAddr 73 (.tmp 4) 0, some (40, false)⟩, .p) <| .c (⟨some 42, .load 3 (.tmp 41), some (40, false)⟩, .l) <| .c (⟨some 43, .fieldAddr 73 (.tmp 4) 1, some (40, false)⟩, .p) <| .c (⟨some 44, .load 3 (.tmp 43), some (40, false)⟩, .l) <| .c (⟨some 45, .binOp .gtr 3 (.tmp 42) (.tmp 44) 3, some (40, false)⟩, .p) <| .c (⟨some 46, .pick (.tmp 40) (.const (.bool true)) (.tmp 45), none⟩, .p) <| .c (⟨some 47, .move (.tmp 46), none⟩, .p) <| .c (⟨some 48, .fieldAddr 73 (.tmp 4) 1, some (47, false)⟩, .p) <| .c (⟨some 49, .load 3 (.tmp 48), some (47, false)⟩, .l) <| .c (⟨some 50, .load 76 (.tmp 1), some (47, false)⟩, .l) <| .c (⟨some 51, .nilCheck (.tmp 50), some (47, false)⟩, .p) <| .c (⟨some 52, .fieldAddr 51 (.tmp 51) 0, some (47, false)⟩, .p) <| .c (⟨some 53, .load 3 (.tmp 52), some (47, false)⟩, .l) <| .c (⟨some 54, .move (.tmp 3), some (47, false)⟩, .p) <| .c (⟨some 55, .binOp .add 3 (.tmp 53) (.tmp 54) 3, some (47, false)⟩, .p) <| .c (⟨some 56, .binOp .geq 3 (.tmp 49) (.tmp 55) 3, some (47, false)⟩, .p) <| .c (⟨some 57, .pick (.tmp 47) (.const (.bool true)) (.tmp 56), none⟩, .p) <| .n) Q a) : LI Try.prog h0 L (.raw (.region id rg80_0 true)) Q a :=
  LI_draw (.c (0, .p) <| .c (1, .l) <| .c (2, .p) <| .c (3, .p) <| .c (4, .p) <| .c (5, .l) <| .c (6, .p) <| .c (7, .l) <| .c (8, .p) <| .c (9, .p) <| .c (10, .p) <| .c (11, .p) <| .c (12, .l) <| .c (13, .l) <| .c (14, .p) <| .c (15, .p) <| .c (16, .l) <| .c (17, .p) <| .c (18, .p) <| .c (19, .p) <| .c (20, .p) <| .n) [] (by kernel_rfl) (by kernel_rfl) (by kernel_rfl) H

/-- (*impl.Plan).exponents -/
def c81 : IC :=
  (.seq
  (.reg [
    ⟨some 2, .assign (.const (.slice none 0 0)), none⟩])
  (.seq
  (.reg [
    ⟨some 11, .buildSlice 22 0 #[], none⟩,
    ⟨some 3, .assign (.tmp 11), none⟩])
  (.seq
  (.seq
  (.reg [
    ⟨some 12, .move (.tmp 0), none⟩,
    ⟨some 13, .nilCheck (.tmp 12), none⟩,
    ⟨some 14, .fieldAddr 51 (.tmp 13) 0, none⟩,
    ⟨some 15, .load 3 (.tmp 14), none⟩,
    ⟨some 16, .move (.const (.int .i64 0)), none⟩])
  (.block 0
  (.loop
    (.seq
    (.reg [
      ⟨some 17, .binOp .lss 3 (.tmp 16) (.tmp 15) 3, none⟩])
    (.seq
    (.cond (.tmp 17)
      .skip
      (.exit 0))
    (.seq
    (.block 1
    (.seq
    (.reg [
      ⟨some 18, .move (.tmp 16), none⟩,
      ⟨some 4, .assign (.tmp 18), none⟩])
    (.seq
    (.reg [
      ⟨some 19, .move (.tmp 0), none⟩,
      ⟨some 20, .nilCheck (.tmp 19), none⟩,
      ⟨some 21, .fieldAddr 51 (.tmp 20) 0, none⟩,
      ⟨some 22, .load 3 (.tmp 21), none⟩,
      ⟨some 23, .makeSlice 31 (.tmp 22) (.tmp 22), none⟩,
      ⟨some 5, .assign (.tmp 23), none⟩])
    (.seq
    (.reg [
      ⟨some 24, .move (.tmp 5), none⟩,
      ⟨some 25, .move (.tmp 4), none⟩,
      ⟨some 26, .indexAddr 31 (.tmp 24) (.tmp 25), none⟩,
      ⟨none, .store 3 (.tmp 26) (.const (.int .i64 1)), none⟩])
    (.reg [
      ⟨some 27, .move (.tmp 3), none⟩,
      ⟨some 28, .move (.tmp 5), none⟩,
      ⟨some 29, .buildSlice 22 1 #[(0, .tmp 28)], none⟩,
      ⟨some 30, .call { callee := .builtin .append, args := #[.tmp 27, .tmp 29], argTypes := #[22, 22] }, none⟩,
      ⟨some 3, .assign (.tmp 30), none⟩])))))
    (.reg [
      ⟨some 31, .binOp .add 3 (.tmp 16) (.const (.int .i64 1)) 3, none⟩,
      ⟨some 16, .move (.tmp 31), none⟩])))))))
  (.seq
  (.seq
  (.reg [
    ⟨some 32, .move (.tmp 0), none⟩,
    ⟨some 33, .nilCheck (.tmp 32), none⟩,
    ⟨some 34, .fieldAddr 51 (.tmp 33) 1, none⟩,
    ⟨some 35, .load 49 (.tmp 34), none⟩,
    ⟨some 36, .call { callee := .builtin .len, args := #[.tmp 35], argTypes := #[49] }, none⟩,
    ⟨some 37, .move (.const (.int .i64 0)), none⟩])
  (.block 2
  (.loop
    (.seq
    (.reg [
      ⟨some 38, .binOp .lss 3 (.tmp 37) (.tmp 36) 3, none⟩])
    (.seq
    (.cond (.tmp 38)
      .skip
      (.exit 2))
    (.seq
    (.block 3
    (.seq
    (.reg [
      ⟨some 39, .indexAddr 49 (.tmp 35) (.tmp 37), none⟩,
      ⟨some 40, .load 73 (.tmp 39), none⟩,
      ⟨some 7, .alloc 73, none⟩,
      ⟨none, .store 73 (.tmp 7) (.tmp 40), none⟩])
    (.seq
    (.reg [
      ⟨some 41, .buildSlice 31 0 #[], none⟩,
      ⟨some 8, .assign (.tmp 41), none⟩])
    (.seq
    (.seq
    (.reg [
      ⟨some 42, .move (.tmp 3), none⟩,
      ⟨some 43, .fieldAddr 73 (.tmp 7) 0, none⟩,
      ⟨some 44, .load 3 (.tmp 43), none⟩,
      ⟨some 45, .indexAddr 22 (.tmp 42) (.tmp 44), none⟩,
      ⟨some 46, .load 31 (.tmp 45), none⟩,
      ⟨some 47, .call { callee := .builtin .len, args := #[.tmp 46], argTypes := #[31] }, none⟩,
      ⟨some 48, .move (.const (.int .i64 0)), none⟩])
    (.block 4
    (.loop
      (.seq
      (.reg [
        ⟨some 49, .binOp .lss 3 (.tmp 48) (.tmp 47) 3, none⟩])
      (.seq
      (.cond (.tmp 49)
        .skip
        (.exit 4))
      (.seq
      (.block 5
      (.seq
      (.reg [
        ⟨some 50, .move (.tmp 48), none⟩,
        ⟨some 51, .indexAddr 31 (.tmp 46) (.tmp 48), none⟩,
        ⟨some 52, .load 3 (.tmp 51), none⟩,
        ⟨some 9, .assign (.tmp 50), none⟩,
        ⟨some 10, .assign (.tmp 52), none⟩])
      (.reg [
        ⟨some 53, .move (.tmp 8), none⟩,
        ⟨some 54, .move (.tmp 10), none⟩,
        ⟨some 55, .move (.tmp 3), none⟩,
        ⟨some 56, .fieldAddr 73 (.tmp 7) 1, none⟩,
        ⟨some 57, .load 3 (.tmp 56), none⟩,
        ⟨some 58, .indexAddr 22 (.tmp 55) (.tmp 57), none⟩,
        ⟨some 59, .load 31 (.tmp 58), none⟩,
        ⟨some 60, .move (.tmp 9), none⟩,
        ⟨some 61, .indexAddr 31 (.tmp 59) (.tmp 60), none⟩,
        ⟨some 62, .load 3 (.tmp 61), none⟩,
        ⟨some 63, .binOp .add 3 (.tmp 54) (.tmp 62) 3, none⟩,
        ⟨some 64, .call { callee := .builtin .min, args := #[.tmp 63, .const (.int .i64 1000001)], argTypes := #[3, 3] }, none⟩,
        ⟨some 65, .buildSlice 31 1 #[(0, .tmp 64)], none⟩,
        ⟨some 66, .call { callee := .builtin .append, args := #[.tmp 53, .tmp 65], argTypes := #[31, 31] }, none⟩,
        ⟨some 8, .assign (.tmp 66), none⟩])))
      (.reg [
        ⟨some 67, .binOp .add 3 (.tmp 48) (.const (.int .i64 1)) 3, none⟩,
        ⟨some 48, .move (.tmp 67), none⟩])))))))
    (.reg [
      ⟨some 68, .move (.tmp 3), none⟩,
      ⟨some 69, .move (.tmp 8), none⟩,
      ⟨some 70, .buildSlice 22 1 #[(0, .tmp 69)], none⟩,
      ⟨some 71, .call { callee := .builtin .append, args := #[.tmp 68, .tmp 70], argTypes := #[22, 22] }, none⟩,
      ⟨some 3, .assign (.tmp 71), none⟩])))))
    (.reg [
      ⟨some 72, .binOp .add 3 (.tmp 37) (.const (.int .i64 1)) 3, none⟩,
      ⟨some 37, .move (.tmp 72), none⟩])))))))
  (.seq
  (.reg [
    ⟨some 73, .move (.tmp 3), none⟩,
    ⟨some 2, .assign (.tmp 73), none⟩])
  .ret)))))
theorem hd81 : Try.f81.body.map dec = some c81 := by kernel_rfl
theorem e81 {R : AV → AH → Prop} {h : AH} (x0 : AV) (H : h.wf → AI Try.prog c81 (RetQ Try.prog [.tmp 2] R) [x0, un, un, un, un, un, un, un, un, un, un, un, un, un, un, un, un, un, un, un, un, un, un, un, un, un, un, un, un, un, un, un, un, un, un, un, un, un, un, un, un, un, un, un, un, un, un, un, un, un, un, un, un, un, un, un, un, un, un, un, un, un, un, un, un, un, un, un, un, un, un, un, un, un] h) : AC Try.prog 81 [x0] h R :=
  AC_of' (rs := [.tmp 2]) Try.func81 (by kernel_rfl) hd81 Try.ntmps81 rfl H

/-- slices.Max[[]int,int] -/
def c83 : IC :=
  (.seq
  (.reg [
    ⟨some 2, .assign (.const (.int .i64 0)), none⟩])
  (.seq
  (.seq
  (.reg [
    ⟨some 5, .move (.tmp 0), none⟩,
    ⟨some 6, .call { callee := .builtin .len, args := #[.tmp 5], argTypes := #[31] }, none⟩,
    ⟨some 7, .binOp .lss 3 (.tmp 6) (.const (.int .i64 1)) 3, none⟩])
  (.cond (.tmp 7)
    (.reg [
      ⟨some 8, .makeInterface 9 (.const (.string { data := #[115, 108, 105, 99, 101, 115, 46, 77, 97, 120, 58, 32, 101, 109, 112, 116, 121, 32, 108, 105, 115, 116] })), none⟩,
      ⟨none, .panic (.tmp 8), none⟩])
    .skip))
  (.seq
  (.reg [
    ⟨some 9, .move (.tmp 0), none⟩,
    ⟨some 10, .indexAddr 31 (.tmp 9) (.const (.int .i64 0)), none⟩,
    ⟨some 11, .load 3 (.tmp 10), none⟩,
    ⟨some 3, .assign (.tmp 11), none⟩])
  (.seq
  (.seq
  (.reg [
    ⟨some 4, .assign (.const (.int .i64 1)), none⟩])
  (.block 0
  (.loop
    (.seq
    (.seq
    (.reg [
      ⟨some 12, .move (.tmp 4), none⟩,
      ⟨some 13, .move (.tmp 0), none⟩,
      ⟨some 14, .call { callee := .builtin .len, args := #[.tmp 13], argTypes := #[31] }, none⟩,
      ⟨some 15, .binOp .lss 3 (.tmp 12) (.tmp 14) 3, none⟩])
    (.cond (.tmp 15)
      .skip
      (.exit 0)))
    (.seq
    (.block 1
    (.reg [
      ⟨some 18, .move (.tmp 3), none⟩,
      ⟨some 19, .move (.tmp 0), none⟩,
      ⟨some 20, .move (.tmp 4), none⟩,
      ⟨some 21, .indexAddr 31 (.tmp 19) (.tmp 20), none⟩,
      ⟨some 22, .load 3 (.tmp 21), none⟩,
      ⟨some 23, .call { callee := .builtin .max, args := #[.tmp 18, .tmp 22], argTypes := #[3, 3] }, none⟩,
      ⟨some 3, .assign (.tmp 23), none⟩]))
    (.reg [
      ⟨some 16, .move (.tmp 4), none⟩,
      ⟨some 17, .binOp .add 3 (.tmp 16) (.const (.int .i64 1)) 3, none⟩,
      ⟨some 4, .assign (.tmp 17), none⟩]))))))
  (.seq
  (.reg [
    ⟨some 24, .move (.tmp 3), none⟩,
    ⟨some 2, .assign (.tmp 24), none⟩])
  .ret)))))
theorem hd83 : Try.f83.body.map dec = some c83 := by kernel_rfl
theorem e83 {R : AV → AH → Prop} {h : AH} (x0 : AV) (H : h.wf → AI Try.prog c83 (RetQ Try.prog [.tmp 2] R) [x0, un, un, un, un, un, un, un, un, un, un, un, un, un, un, un, un, un, un, un, un, un, un, un, un] h) : AC Try.prog 83 [x0] h R :=
  AC_of' (rs := [.tmp 2]) Try.func83 (by kernel_rfl) hd83 Try.ntmps83 rfl H

/-- impl.IsPlan$1 -/
def c82 : IC :=
  (.seq
  (.reg [
    ⟨some 2, .assign (.const (.bool false)), none⟩])
  (.seq
  (.reg [
    ⟨some 3, .move (.tmp 0), none⟩,
    ⟨some 4, .call { callee := .value (.func 83), args := #[.tmp 3], argTypes := #[31] }, none⟩,
    ⟨some 5, .binOp .gtr 3 (.tmp 4) (.const (.int .i64 1000000)) 3, none⟩,
    ⟨some 2, .assign (.tmp 5), none⟩])
  .ret))
theorem hd82 : Try.f82.body.map dec = some c82 := by kernel_rfl
theorem e82 {R : AV → AH → Prop} {h : AH} (x0 : AV) (H : h.wf → AI Try.prog c82 (RetQ Try.prog [.tmp 2] R) [x0, un, un, un, un, un] h) : AC Try.prog 82 [x0] h R :=
  AC_of' (rs := [.tmp 2]) Try.func82 (by kernel_rfl) hd82 Try.ntmps82 rfl H

/-- impl.IsPlan -/
def c61 : IC :=
  (.seq
  (.reg [
    ⟨some 1, .box 51 (.tmp 0), none⟩,
    ⟨some 2, .assign (.const (.bool false)), none⟩])
  (.seq
  (.reg [
    ⟨some 3, .call { callee := .value (.func 80), args := #[.tmp 1], argTypes := #[51] }, none⟩,
    ⟨some 4, .move (.tmp 3), none⟩,
    ⟨some 5, .call { callee := .value (.func 81), args := #[.tmp 1], argTypes := #[51] }, some (4, true)⟩,
    ⟨some 6, .call { callee := .value (.func 69), args := #[.tmp 5, .func 82], argTypes := #[22, 37] }, some (4, true)⟩,
    ⟨some 7, .unOp .not 4 (.tmp 6), some (4, true)⟩,
    ⟨some 8, .pick (.tmp 4) (.tmp 7) (.const (.bool false)), none⟩,
    ⟨some 2, .assign (.tmp 8), none⟩])
  .ret))
theorem hd61 : Try.f61.body.map dec = some c61 := by kernel_rfl
theorem e61 {R : AV → AH → Prop} {h : AH} (x0 : AV) (H : h.wf → AI Try.prog c61 (RetQ Try.prog [.tmp 2] R) [x0, un, un, un, un, un, un, un, un] h) : AC Try.prog 61 [x0] h R :=
  AC_of' (rs := [.tmp 2]) Try.func61 (by kernel_rfl) hd61 Try.ntmps61 rfl H

/-- impl.outputsOf[[]int] -/
def c62 : IC :=
  (.seq
  (.reg [
    ⟨some 4, .assign (.const (.slice none 0 0)), none⟩])
  (.seq
  (.reg [
    ⟨some 8, .buildSlice 22 0 #[], none⟩,
    ⟨some 5, .assign (.tmp 8), none⟩])
  (.seq
  (.seq
  (.reg [
    ⟨some 9, .move (.tmp 0), none⟩,
    ⟨some 10, .nilCheck (.tmp 9), none⟩,
    ⟨some 11, .fieldAddr 51 (.tmp 10) 2, none⟩,
    ⟨some 12, .load 31 (.tmp 11), none⟩,
    ⟨some 13, .call { callee := .builtin .len, args := #[.tmp 12], argTypes := #[31] }, none⟩,
    ⟨some 14, .move (.const (.int .i64 0)), none⟩])
  (.block 0
  (.loop
    (.seq
    (.reg [
      ⟨some 15, .binOp .lss 3 (.tmp 14) (.tmp 13) 3, none⟩])
    (.seq
    (.cond (.tmp 15)
      .skip
      (.exit 0))
    (.seq
    (.block 1
    (.seq
    (.reg [
      ⟨some 16, .indexAddr 31 (.tmp 12) (.tmp 14), none⟩,
      ⟨some 17, .load 3 (.tmp 16), none⟩,
      ⟨some 7, .assign (.tmp 17), none⟩])
    (.reg [
      ⟨some 18, .move (.tmp 5), none⟩,
      ⟨some 19, .move (.tmp 1), none⟩,
      ⟨some 20, .move (.tmp 7), none⟩,
      ⟨some 21, .indexAddr 22 (.tmp 19) (.tmp 20), none⟩,
      ⟨some 22, .load 31 (.tmp 21), none⟩,
      ⟨some 23, .buildSlice 22 1 #[(0, .tmp 22)], none⟩,
      ⟨some 24, .call { callee := .builtin .append, args := #[.tmp 18, .tmp 23], argTypes := #[22, 22] }, none⟩,
      ⟨some 5, .assign (.tmp 24), none⟩])))
    (.reg [
      ⟨some 25, .binOp .add 3 (.tmp 14) (.const (.int .i64 1)) 3, none⟩,
      ⟨some 14, .move (.tmp 25), none⟩])))))))
  (.seq
  (.reg [
    ⟨some 26, .move (.tmp 5), none⟩,
    ⟨some 4, .assign (.tmp 26), none⟩])
  .ret))))
theorem hd62 : Try.f62.body.map dec = some c62 := by kernel_rfl
theorem e62 {R : AV → AH → Prop} {h : AH} (x0 x1 : AV) (H : h.wf → AI Try.prog c62 (RetQ Try.prog [.tmp 4] R) [x0, x1, un, un, un, un, un, un, un, un, un, un, un, un, un, un, un, un, un, un, un, un, un, un, un, un, un] h) : AC Try.prog 62 [x0, x1] h R :=
  AC_of' (rs := [.tmp 4]) Try.func62 (by kernel_rfl) hd62 Try.ntmps62 rfl H

/-- slices.Clone[[][]int,[]int] -/
def c84 : IC :=
  (.seq
  (.reg [
    ⟨some 2, .assign (.const (.slice none 0 0)), none⟩])
  (.seq
  (.seq
  (.reg [
    ⟨some 3, .move (.tmp 0), none⟩,
    ⟨some 4, .binOp .eql 22 (.tmp 3) (.const (.slice none 0 0)) 22, none⟩])
  (.cond (.tmp 4)
    (.seq
    (.reg [
      ⟨some 2, .assign (.const (.slice none 0 0)), none⟩])
    .ret)
    .skip))
  (.seq
  (.reg [
    ⟨some 5, .buildSlice 22 0 #[], none⟩,
    ⟨some 6, .move (.tmp 0), none⟩,
    ⟨some 7, .call { callee := .builtin .append, args := #[.tmp 5, .tmp 6], argTypes := #[22, 22] }, none⟩,
    ⟨some 2, .assign (.tmp 7), none⟩])
  .ret)))
theorem hd84 : Try.f84.body.map dec = some c84 := by kernel_rfl
theorem e84 {R : AV → AH → Prop} {h : AH} (x0 : AV) (H : h.wf → AI Try.prog c84 (RetQ Try.prog [.tmp 2] R) [x0, un, un, un, un, un, un, un] h) : AC Try.prog 84 [x0] h R :=
  AC_of' (rs := [.tmp 2]) Try.func84 (by kernel_rfl) hd84 Try.ntmps84 rfl H

noncomputable def rg63_0 : Array Oper := rawAt Try.f63 0
/-- impl.run[[]int] -/
noncomputable def c63 : IC :=
  (.seq
  (.reg [
    ⟨some 6, .assign (.const (.slice none 0 0)), none⟩])
  (.seq
  (.reg [
    ⟨some 10, .move (.tmp 1), none⟩,
    ⟨some 11, .call { callee := .value (.func 84), args := #[.tmp 10], argTypes := #[22] }, none⟩,
    ⟨some 7, .assign (.tmp 11), none⟩])
  (.seq
  (.seq
  (.reg [
    ⟨some 12, .move (.tmp 0), none⟩,
    ⟨some 13, .nilCheck (.tmp 12), none⟩,
    ⟨some 14, .fieldAddr 51 (.tmp 13) 1, none⟩,
    ⟨some 15, .load 49 (.tmp 14), none⟩,
    ⟨some 16, .call { callee := .builtin .len, args := #[.tmp 15], argTypes := #[49] }, none⟩,
    ⟨some 17, .move (.const (.int .i64 0)), none⟩])
  (.block 0
  (.loop
    (.seq
    (.reg [
      ⟨some 18, .binOp .lss 3 (.tmp 17) (.tmp 16) 3, none⟩])
    (.seq
    (.cond (.tmp 18)
      .skip
      (.exit 0))
    (.seq
    (.block 1
    (.seq
    (.reg [
      ⟨some 19, .indexAddr 49 (.tmp 15) (.tmp 17), none⟩,
      ⟨some 20, .load 73 (.tmp 19), none⟩,
      ⟨some 9, .alloc 73, none⟩,
      ⟨none, .store 73 (.tmp 9) (.tmp 20), none⟩])
    (.raw (.region 5 rg63_0 true))))
    (.reg [
      ⟨some 36, .binOp .add 3 (.tmp 17) (.const (.int .i64 1)) 3, none⟩,
      ⟨some 17, .move (.tmp 36), none⟩])))))))
  (.seq
  (.reg [
    ⟨some 37, .move (.tmp 7), none⟩,
    ⟨some 6, .assign (.tmp 37), none⟩])
  .ret))))
theorem hd63 : Try.f63.body.map dec = some c63 := by kernel_rfl
theorem e63 {R : AV → AH → Prop} {h : AH} (x0 x1 x2 : AV) (H : h.wf → AI Try.prog c63 (RetQ Try.prog [.tmp 6] R) [x0, x1, x2, un, un, un, un, un, un, un, un, un, un, un, un, un, un, un, un, un, un, un, un, un, un, un, un, un, un, un, un, un, un, un, un, un, un, un] h) : AC Try.prog 63 [x0, x1, x2] h R :=
  AC_of' (rs := [.tmp 6]) Try.func63 (by kernel_rfl) hd63 Try.ntmps63 rfl H
theorem dz63_0 {h0 : AH} {L : List It} {Q : Exit → List AV → List It → Prop} {a : List AV} {id : Nat} (H : LX Try.prog ⟨[14], []⟩ h0 L L (.c (⟨some 21, .move (.tmp 7), none⟩, .p) <| .c (⟨some 22, .move (.tmp 2), none⟩, .p) <| .c (⟨some 23, .move (.tmp 7), none⟩, .p) <| .c (⟨some 24, .fieldAddr 73 (.tmp 9) 0, none⟩, .p) <| .c (⟨some 25, .load 3 (.tmp 24), none⟩, .l) <| .c (⟨some 26, .indexAddr 22 (.tmp 23) (.tmp 25), none⟩, .p) <| .c (⟨some 27, .load 31 (.tmp 26), none⟩, .l) <| .c (⟨some 28, .move (.tmp 7), none⟩, .p) <| .c (⟨some 29, .fieldAddr 73 (.tmp 9) 1, none⟩, .p) <| .c (⟨some 30, .load 3 (.tmp 29), none⟩, .l) <| .c (⟨some 31, .indexAddr 22 (.tmp 28) (.tmp 30), none⟩, .p) <| .c (⟨some 32, .load 31 (.tmp 31), none⟩, .l) <| .c (⟨some 33, .call { callee := .value (.tmp 22), args := #[.tmp 27, .tmp 32], argTypes := #[31, 31] }, none⟩, .e) <| .c (⟨some 34, .buildSlice 22 1 #[(0, .tmp 33)], none⟩, .e) <| .c (⟨some 35, .call { callee := .builtin .append, args := #[.tmp 21, .tmp 34], argTypes := #[22, 22] }, none⟩, .f) <| .c (⟨some 7, .assign (.tmp 35), none⟩, .p) <| .n) Q a) : LI Try.prog h0 L (.raw (.region id rg63_0 true)) Q a :=
  LI_draw (.c (0, .p) <| .c (1, .p) <| .c (2, .p) <| .c (3, .p) <| .c (4, .l) <| .c (5, .p) <| .c (6, .l) <| .c (7, .p) <| .c (8, .p) <| .c (9, .l) <| .c (10, .p) <| .c (11, .l) <| .c (12, .e) <| .c (13, .e) <| .c (14, .f) <| .c (15, .p) <| .n) [14] (by kernel_rfl) (by kernel_rfl) (by kernel_rfl) H
theorem dy63_0 {h0 : AH} {L : List It} {Q : Exit → List AV → List It → Prop} {a : List AV} {id : Nat} (H : LX Try.prog ⟨[12, 13, 14], []⟩ h0 L L (.c (⟨some 21, .move (.tmp 7), none⟩, .p) <| .c (⟨some 22, .move (.tmp 2), none⟩, .p) <| .c (⟨some 23, .move (.tmp 7), none⟩, .p) <| .c (⟨some 24, .fieldAddr 73 (.tmp 9) 0, none⟩, .p) <| .c (⟨some 25, .load 3 (.tmp 24), none⟩, .l) <| .c (⟨some 26, .indexAddr 22 (.tmp 23) (.tmp 25), none⟩, .p) <| .c (⟨some 27, .load 31 (.tmp 26), none⟩, .l) <| .c (⟨some 28, .move (.tmp 7), none⟩, .p) <| .c (⟨some 29, .fieldAddr 73 (.tmp 9) 1, none⟩, .p) <| .c (⟨some 30, .load 3 (.tmp 29), none⟩, .l) <| .c (⟨some 31, .indexAddr 22 (.tmp 28) (.tmp 30), none⟩, .p) <| .c (⟨some 32, .load 31 (.tmp 31), none⟩, .l) <| .c (⟨some 33, .call { callee := .value (.tmp 22), args := #[.tmp 27, .tmp 32], argTypes := #[31, 31] }, none⟩, .f) <| .c (⟨some 34, .buildSlice 22 1 #[(0, .tmp 33)], none⟩, .f) <| .c (⟨some 35, .call { callee := .builtin .append, args := #[.tmp 21, .tmp 34], argTypes := #[22, 22] }, none⟩, .f) <| .c (⟨some 7, .assign (.tmp 35), none⟩, .p) <| .n) Q a) : LI Try.prog h0 L (.raw (.region id rg63_0 true)) Q a :=
  LI_draw (.c (0, .p) <| .c (1, .p) <| .c (2, .p) <| .c (3, .p) <| .c (4, .l) <| .c (5, .p) <| .c (6, .l) <| .c (7, .p) <| .c (8, .p) <| .c (9, .l) <| .c (10, .p) <| .c (11, .l) <| .c (12, .f) <| .c (13, .f) <| .c (14, .f) <| .c (15, .p) <| .n) [12, 13, 14] (by kernel_rfl) (by kernel_rfl) (by kernel_rfl) H
theorem dr63_0 (m : Nat) {Q : Exit → List AV → AH → Prop} {a : List AV} {h : AH} {id : Nat} (H : AX Try.prog m h [(⟨some 21, .move (.tmp 7), none⟩, true),
  (⟨some 22, .move (.tmp 2), none⟩, true),
  (⟨some 23, .move (.tmp 7), none⟩, true),
  (⟨some 24, .fieldAddr 73 (.tmp 9) 0, none⟩, true),
  (⟨some 25, .load 3 (.tmp 24), none⟩, true),
  (⟨some 26, .indexAddr 22 (.tmp 23) (.tmp 25), none⟩, true),
  (⟨some 27, .load 31 (.tmp 26), none⟩, true),
  (⟨some 28, .move (.tmp 7), none⟩, true),
  (⟨some 29, .fieldAddr 73 (.tmp 9) 1, none⟩, true),
  (⟨some 30, .load 3 (.tmp 29), none⟩, true),
  (⟨some 31, .indexAddr 22 (.tmp 28) (.tmp 30), none⟩, true),
  (⟨some 32, .load 31 (.tmp 31), none⟩, true),
  (⟨some 33, .call { callee := .value (.tmp 22), args := #[.tmp 27, .tmp 32], argTypes := #[31, 31] }, none⟩, false),
  (⟨some 34, .buildSlice 22 1 #[(0, .tmp 33)], none⟩, false),
  (⟨some 35, .call { callee := .builtin .append, args := #[.tmp 21, .tmp 34], argTypes := #[22, 22] }, none⟩, false),
  (⟨some 7, .assign (.tmp 35), none⟩, true)] (fun a' h' => Q .normal a' h') a h) : AI Try.prog (.raw (.region id rg63_0 true)) Q a h :=
  AI_draw [(0, true), (1, true), (2, true), (3, true), (4, true), (5, true), (6, true), (7, true), (8, true), (9, true), (10, true), (11, true), (12, false), (13, false), (14, false), (15, true)] m (by kernel_rfl) (by kernel_rfl) (by kernel_rfl) H

/-- slices.Clone[[]int,int] -/
def c64 : IC :=
  (.seq
  (.reg [
    ⟨some 2, .assign (.const (.slice none 0 0)), none⟩])
  (.seq
  (.seq
  (.reg [
    ⟨some 3, .move (.tmp 0), none⟩,
    ⟨some 4, .binOp .eql 31 (.tmp 3) (.const (.slice none 0 0)) 31, none⟩])
  (.cond (.tmp 4)
    (.seq
    (.reg [
      ⟨some 2, .assign (.const (.slice none 0 0)), none⟩])
    .ret)
    .skip))
  (.seq
  (.reg [
    ⟨some 5, .buildSlice 31 0 #[], none⟩,
    ⟨some 6, .move (.tmp 0), none⟩,
    ⟨some 7, .call { callee := .builtin .append, args := #[.tmp 5, .tmp 6], argTypes := #[31, 31] }, none⟩,
    ⟨some 2, .assign (.tmp 7), none⟩])
  .ret)))
theorem hd64 : Try.f64.body.map dec = some c64 := by kernel_rfl
theorem e64 {R : AV → AH → Prop} {h : AH} (x0 : AV) (H : h.wf → AI Try.prog c64 (RetQ Try.prog [.tmp 2] R) [x0, un, un, un, un, un, un, un] h) : AC Try.prog 64 [x0] h R :=
  AC_of' (rs := [.tmp 2]) Try.func64 (by kernel_rfl) hd64 Try.ntmps64 rfl H

/-- impl.RunPermutations -/
def c29 : IC :=
  (.seq
  (.reg [
    ⟨some 2, .box 51 (.tmp 0), none⟩,
    ⟨some 4, .assign (.const (.slice none 0 0)), none⟩,
    ⟨some 5, .assign (.const (.bool false)), none⟩])
  (.seq
  (.seq
  (.reg [
    ⟨some 9, .load 51 (.tmp 2), none⟩,
    ⟨some 10, .call { callee := .value (.func 61), args := #[.tmp 9], argTypes := #[51] }, none⟩,
    ⟨some 11, .unOp .not 4 (.tmp 10), none⟩,
    ⟨some 12, .move (.tmp 11), none⟩,
    ⟨some 13, .move (.tmp 1), some (12, false)⟩,
    ⟨some 14, .call { callee := .builtin .len, args := #[.tmp 13], argTypes := #[22] }, some (12, false)⟩,
    ⟨some 15, .fieldAddr 51 (.tmp 2) 0, some (12, false)⟩,
    ⟨some 16, .load 3 (.tmp 15), some (12, false)⟩,
    ⟨some 17, .binOp .neq 3 (.tmp 14) (.tmp 16) 3, some (12, false)⟩,
    ⟨some 18, .pick (.tmp 12) (.const (.bool true)) (.tmp 17), none⟩,
    ⟨some 19, .move (.tmp 18), none⟩,
    ⟨some 20, .move (.tmp 1), some (19, false)⟩,
    ⟨some 21, .call { callee := .value (.func 43), args := #[.tmp 20], argTypes := #[22] }, some (19, false)⟩,
    ⟨some 22, .unOp .not 4 (.tmp 21), some (19, false)⟩,
    ⟨some 23, .pick (.tmp 19) (.const (.bool true)) (.tmp 22), none⟩])
  (.cond (.tmp 23)
    (.seq
    (.reg [
      ⟨some 4, .assign (.const (.slice none 0 0)), none⟩,
      ⟨some 5, .assign (.const (.bool false)), none⟩])
    .ret)
    .skip))
  (.seq
  (.reg [
    ⟨some 24, .buildSlice 22 0 #[], none⟩,
    ⟨some 6, .assign (.tmp 24), none⟩])
  (.seq
  (.seq
  (.reg [
    ⟨some 25, .move (.tmp 1), none⟩,
    ⟨some 26, .call { callee := .value (.func 63), args := #[.tmp 2, .tmp 25, .func 45], argTypes := #[76, 22, 59] }, none⟩,
    ⟨some 27, .call { callee := .value (.func 62), args := #[.tmp 2, .tmp 26], argTypes := #[76, 22] }, none⟩,
    ⟨some 28, .call { callee := .builtin .len, args := #[.tmp 27], argTypes := #[22] }, none⟩,
    ⟨some 29, .move (.const (.int .i64 0)), none⟩])
  (.block 0
  (.loop
    (.seq
    (.reg [
      ⟨some 30, .binOp .lss 3 (.tmp 29) (.tmp 28) 3, none⟩])
    (.seq
    (.cond (.tmp 30)
      .skip
      (.exit 0))
    (.seq
    (.block 1
    (.seq
    (.reg [
      ⟨some 31, .indexAddr 22 (.tmp 27) (.tmp 29), none⟩,
      ⟨some 32, .load 31 (.tmp 31), none⟩,
      ⟨some 8, .assign (.tmp 32), none⟩])
    (.reg [
      ⟨some 33, .move (.tmp 6), none⟩,
      ⟨some 34, .move (.tmp 8), none⟩,
      ⟨some 35, .call { callee := .value (.func 64), args := #[.tmp 34], argTypes := #[31] }, none⟩,
      ⟨some 36, .buildSlice 22 1 #[(0, .tmp 35)], none⟩,
      ⟨some 37, .call { callee := .builtin .append, args := #[.tmp 33, .tmp 36], argTypes := #[22, 22] }, none⟩,
      ⟨some 6, .assign (.tmp 37), none⟩])))
    (.reg [
      ⟨some 38, .binOp .add 3 (.tmp 29) (.const (.int .i64 1)) 3, none⟩,
      ⟨some 29, .move (.tmp 38), none⟩])))))))
  (.seq
  (.reg [
    ⟨some 39, .move (.tmp 6), none⟩,
    ⟨some 4, .assign (.tmp 39), none⟩,
    ⟨some 5, .assign (.const (.bool true)), none⟩])
  .ret)))))
theorem hd29 : Try.f29.body.map dec = some c29 := by kernel_rfl
theorem e29 {R : AV → AH → Prop} {h : AH} (x0 x1 : AV) (H : h.wf → AI Try.prog c29 (RetQ Try.prog [.tmp 4, .tmp 5] R) [x0, x1, un, un, un, un, un, un, un, un, un, un, un, un, un, un, un, un, un, un, un, un, un, un, un, un, un, un, un, un, un, un, un, un, un, un, un, un, un, un] h) : AC Try.prog 29 [x0, x1] h R :=
  AC_of' (rs := [.tmp 4, .tmp 5]) Try.func29 (by kernel_rfl) hd29 Try.ntmps29 rfl H

/-- laws.eqStep -/
def c85 : IC :=
  (.seq
  (.reg [
    ⟨some 2, .box 73 (.tmp 0), none⟩,
    ⟨some 3, .box 73 (.tmp 1), none⟩,
    ⟨some 4, .assign (.const (.bool false)), none⟩])
  (.seq
  (.seq
  (.reg [
    ⟨some 5, .fieldAddr 73 (.tmp 2) 0, none⟩,
    ⟨some 6, .load 3 (.tmp 5), none⟩,
    ⟨some 7, .fieldAddr 73 (.tmp 3) 0, none⟩,
    ⟨some 8, .load 3 (.tmp 7), none⟩,
    ⟨some 9, .binOp .neq 3 (.tmp 6) (.tmp 8) 3, none⟩])
  (.cond (.tmp 9)
    (.seq
    (.reg [
      ⟨some 4, .assign (.const (.bool false)), none⟩])
    .ret)
    .skip))
  (.seq
  (.seq
  (.reg [
    ⟨some 10, .fieldAddr 73 (.tmp 2) 1, none⟩,
    ⟨some 11, .load 3 (.tmp 10), none⟩,
    ⟨some 12, .fieldAddr 73 (.tmp 3) 1, none⟩,
    ⟨some 13, .load 3 (.tmp 12), none⟩,
    ⟨some 14, .binOp .neq 3 (.tmp 11) (.tmp 13) 3, none⟩])
  (.cond (.tmp 14)
    (.seq
    (.reg [
      ⟨some 4, .assign (.const (.bool false)), none⟩])
    .ret)
    .skip))
  (.seq
  (.reg [
    ⟨some 4, .assign (.const (.bool true)), none⟩])
  .ret))))
theorem hd85 : Try.f85.body.map dec = some c85 := by kernel_rfl
theorem e85 {R : AV → AH → Prop} {h : AH} (x0 x1 : AV) (H : h.wf → AI Try.prog c85 (RetQ Try.prog [.tmp 4] R) [x0, x1, un, un, un, un, un, un, un, un, un, un, un, un, un] h) : AC Try.prog 85 [x0, x1] h R :=
  AC_of' (rs := [.tmp 4]) Try.func85 (by kernel_rfl) hd85 Try.ntmps85 rfl H

noncomputable def rg65_0 : Array Oper := rawAt Try.f65 0
/-- laws.eqStepS -/
noncomputable def c65 : IC :=
  (.seq
  (.reg [
    ⟨some 4, .assign (.const (.bool false)), none⟩])
  (.seq
  (.seq
  (.reg [
    ⟨some 6, .move (.tmp 0), none⟩,
    ⟨some 7, .call { callee := .builtin .len, args := #[.tmp 6], argTypes := #[49] }, none⟩,
    ⟨some 8, .move (.tmp 1), none⟩,
    ⟨some 9, .call { callee := .builtin .len, args := #[.tmp 8], argTypes := #[49] }, none⟩,
    ⟨some 10, .binOp .neq 3 (.tmp 7) (.tmp 9) 3, none⟩])
  (.cond (.tmp 10)
    (.seq
    (.reg [
      ⟨some 4, .assign (.const (.bool false)), none⟩])
    .ret)
    .skip))
  (.seq
  (.seq
  (.reg [
    ⟨some 5, .assign (.const (.int .i64 0)), none⟩])
  (.block 0
  (.loop
    (.seq
    (.seq
    (.reg [
      ⟨some 11, .move (.tmp 5), none⟩,
      ⟨some 12, .move (.tmp 0), none⟩,
      ⟨some 13, .call { callee := .builtin .len, args := #[.tmp 12], argTypes := #[49] }, none⟩,
      ⟨some 14, .binOp .lss 3 (.tmp 11) (.tmp 13) 3, none⟩])
    (.cond (.tmp 14)
      .skip
      (.exit 0)))
    (.seq
    (.block 1
    (.seq
    (.raw (.region 6 rg65_0 true))
    (.cond (.tmp 26)
      (.seq
      (.reg [
        ⟨some 4, .assign (.const (.bool false)), none⟩])
      .ret)
      .skip)))
    (.reg [
      ⟨some 15, .move (.tmp 5), none⟩,
      ⟨some 16, .binOp .add 3 (.tmp 15) (.const (.int .i64 1)) 3, none⟩,
      ⟨some 5, .assign (.tmp 16), none⟩]))))))
  (.seq
  (.reg [
    ⟨some 4, .assign (.const (.bool true)), none⟩])
  .ret))))
theorem hd65 : Try.f65.body.map dec = some c65 := by kernel_rfl
theorem e65 {R : AV → AH → Prop} {h : AH} (x0 x1 : AV) (H : h.wf → AI Try.prog c65 (RetQ Try.prog [.tmp 4] R) [x0, x1, un, un, un, un, un, un, un, un, un, un, un, un, un, un, un, un, un, un, un, un, un, un, un, un, un] h) : AC Try.prog 65 [x0, x1] h R :=
  AC_of' (rs := [.tmp 4]) Try.func65 (by kernel_rfl) hd65 Try.ntmps65 rfl H
theorem dz65_0 {h0 : AH} {L : List It} {Q : Exit → List AV → List It → Prop} {a : List AV} {id : Nat} (H : LX Try.prog ⟨[], []⟩ h0 L L (.c (⟨some 17, .move (.tmp 0), none⟩, .p) <| .c (⟨some 18, .move (.tmp 5), none⟩, .p) <| .c (⟨some 19, .indexAddr 49 (.tmp 17) (.tmp 18), none⟩, .p) <| .c (⟨some 20, .load 73 (.tmp 19), none⟩, .l) <| .c (⟨some 21, .move (.tmp 1), none⟩, .p) <| .c (⟨some 22, .move (.tmp 5), none⟩, .p) <| .c (⟨some 23, .indexAddr 49 (.tmp 21) (.tmp 22), none⟩, .p) <| .c (⟨some 24, .load 73 (.tmp 23), none⟩, .l) <| .c (⟨some 25, .call { callee := .value (.func 85), args := #[.tmp 20, .tmp 24], argTypes := #[73, 73] }, none⟩, .e) <| .c (⟨some 26, .unOp .not 4 (.tmp 25), none⟩, .p) <| .n) Q a) : LI Try.prog h0 L (.raw (.region id rg65_0 true)) Q a :=
  LI_draw (.c (0, .p) <| .c (1, .p) <| .c (2, .p) <| .c (3, .l) <| .c (4, .p) <| .c (5, .p) <| .c (6, .p) <| .c (7, .l) <| .c (8, .e) <| .c (9, .p) <| .n) [] (by kernel_rfl) (by kernel_rfl) (by kernel_rfl) H
theorem dy65_0 {h0 : AH} {L : List It} {Q : Exit → List AV → List It → Prop} {a : List AV} {id : Nat} (H : LX Try.prog ⟨[8], []⟩ h0 L L (.c (⟨some 17, .move (.tmp 0), none⟩, .p) <| .c (⟨some 18, .move (.tmp 5), none⟩, .p) <| .c (⟨some 19, .indexAddr 49 (.tmp 17) (.tmp 18), none⟩, .p) <| .c (⟨some 20, .load 73 (.tmp 19), none⟩, .l) <| .c (⟨some 21, .move (.tmp 1), none⟩, .p) <| .c (⟨some 22, .move (.tmp 5), none⟩, .p) <| .c (⟨some 23, .indexAddr 49 (.tmp 21) (.tmp 22), none⟩, .p) <| .c (⟨some 24, .load 73 (.tmp 23), none⟩, .l) <| .c (⟨some 25, .call { callee := .value (.func 85), args := #[.tmp 20, .tmp 24], argTypes := #[73, 73] }, none⟩, .f) <| .c (⟨some 26, .unOp .not 4 (.tmp 25), none⟩, .p) <| .n) Q a) : LI Try.prog h0 L (.raw (.region id rg65_0 true)) Q a :=
  LI_draw (.c (0, .p) <| .c (1, .p) <| .c (2, .p) <| .c (3, .l) <| .c (4, .p) <| .c (5, .p) <| .c (6, .p) <| .c (7, .l) <| .c (8, .f) <| .c (9, .p) <| .n) [8] (by kernel_rfl) (by kernel_rfl) (by kernel_rfl) H
theorem dr65_0 (m : Nat) {Q : Exit → List AV → AH → Prop} {a : List AV} {h : AH} {id : Nat} (H : AX Try.prog m h [(⟨some 17, .move (.tmp 0), none⟩, true),
  (⟨some 18, .move (.tmp 5), none⟩, true),
  (⟨some 19, .indexAddr 49 (.tmp 17) (.tmp 18), none⟩, true),
  (⟨some 20, .load 73 (.tmp 19), none⟩, true),
  (⟨some 21, .move (.tmp 1), none⟩, true),
  (⟨some 22, .move (.tmp 5), none⟩, true),
  (⟨some 23, .indexAddr 49 (.tmp 21) (.tmp 22), none⟩, true),
  (⟨some 24, .load 73 (.tmp 23), none⟩, true),
  (⟨some 25, .call { callee := .value (.func 85), args := #[.tmp 20, .tmp 24], argTypes := #[73, 73] }, none⟩, false),
  (⟨some 26, .unOp .not 4 (.tmp 25), none⟩, true)] (fun a' h' => Q .normal a' h') a h) : AI Try.prog (.raw (.region id rg65_0 true)) Q a h :=
  AI_draw [(0, true), (1, true), (2, true), (3, true), (4, true), (5, true), (6, true), (7, true), (8, false), (9, true)] m (by kernel_rfl) (by kernel_rfl) (by kernel_rfl) H

/-- laws.eqPlan -/
def c30 : IC :=
  (.seq
  (.reg [
    ⟨some 2, .box 51 (.tmp 0), none⟩,
    ⟨some 3, .box 51 (.tmp 1), none⟩,
    ⟨some 4, .assign (.const (.bool false)), none⟩])
  (.seq
  (.seq
  (.reg [
    ⟨some 5, .fieldAddr 51 (.tmp 2) 0, none⟩,
    ⟨some 6, .load 3 (.tmp 5), none⟩,
    ⟨some 7, .fieldAddr 51 (.tmp 3) 0, none⟩,
    ⟨some 8, .load 3 (.tmp 7), none⟩,
    ⟨some 9, .binOp .neq 3 (.tmp 6) (.tmp 8) 3, none⟩])
  (.cond (.tmp 9)
    (.seq
    (.reg [
      ⟨some 4, .assign (.const (.bool false)), none⟩])
    .ret)
    .skip))
  (.seq
  (.seq
  (.reg [
    ⟨some 10, .fieldAddr 51 (.tmp 2) 1, none⟩,
    ⟨some 11, .load 49 (.tmp 10), none⟩,
    ⟨some 12, .fieldAddr 51 (.tmp 3) 1, none⟩,
    ⟨some 13, .load 49 (.tmp 12), none⟩,
    ⟨some 14, .call { callee := .value (.func 65), args := #[.tmp 11, .tmp 13], argTypes := #[49, 49] }, none⟩,
    ⟨some 15, .unOp .not 4 (.tmp 14), none⟩])
  (.cond (.tmp 15)
    (.seq
    (.reg [
      ⟨some 4, .assign (.const (.bool false)), none⟩])
    .ret)
    .skip))
  (.seq
  (.seq
  (.reg [
    ⟨some 16, .fieldAddr 51 (.tmp 2) 2, none⟩,
    ⟨some 17, .load 31 (.tmp 16), none⟩,
    ⟨some 18, .fieldAddr 51 (.tmp 3) 2, none⟩,
    ⟨some 19, .load 31 (.tmp 18), none⟩,
    ⟨some 20, .call { callee := .value (.func 36), args := #[.tmp 17, .tmp 19], argTypes := #[31, 31] }, none⟩,
    ⟨some 21, .unOp .not 4 (.tmp 20), none⟩])
  (.cond (.tmp 21)
    (.seq
    (.reg [
      ⟨some 4, .assign (.const (.bool false)), none⟩])
    .ret)
    .skip))
  (.seq
  (.reg [
    ⟨some 4, .assign (.const (.bool true)), none⟩])
  .ret)))))
theorem hd30 : Try.f30.body.map dec = some c30 := by kernel_rfl
theorem e30 {R : AV → AH → Prop} {h : AH} (x0 x1 : AV) (H : h.wf → AI Try.prog c30 (RetQ Try.prog [.tmp 4] R) [x0, x1, un, un, un, un, un, un, un, un, un, un, un, un, un, un, un, un, un, un, un, un] h) : AC Try.prog 30 [x0, x1] h R :=
  AC_of' (rs := [.tmp 4]) Try.func30 (by kernel_rfl) hd30 Try.ntmps30 rfl H

/-- laws.markIntS -/
def c37 : IC :=
  (.seq
  (.reg [
    ⟨some 4, .assign (.const (.int .i64 0)), none⟩])
  (.seq
  (.seq
  (.reg [
    ⟨some 5, .assign (.const (.int .i64 0)), none⟩])
  (.block 0
  (.loop
    (.seq
    (.seq
    (.reg [
      ⟨some 6, .move (.tmp 5), none⟩,
      ⟨some 7, .move (.tmp 0), none⟩,
      ⟨some 8, .call { callee := .builtin .len, args := #[.tmp 7], argTypes := #[31] }, none⟩,
      ⟨some 9, .binOp .lss 3 (.tmp 6) (.tmp 8) 3, none⟩])
    (.cond (.tmp 9)
      .skip
      (.exit 0)))
    (.seq
    (.block 1
    (.seq
    (.reg [
      ⟨some 12, .move (.tmp 0), none⟩,
      ⟨some 13, .move (.tmp 5), none⟩,
      ⟨some 14, .move (.tmp 1), none⟩,
      ⟨some 15, .indexAddr 31 (.tmp 12) (.tmp 13), none⟩,
      ⟨none, .store 3 (.tmp 15) (.tmp 14), none⟩])
    (.reg [
      ⟨some 16, .move (.tmp 1), none⟩,
      ⟨some 17, .binOp .add 3 (.tmp 16) (.const (.int .i64 1)) 3, none⟩,
      ⟨some 1, .assign (.tmp 17), none⟩])))
    (.reg [
      ⟨some 10, .move (.tmp 5), none⟩,
      ⟨some 11, .binOp .add 3 (.tmp 10) (.const (.int .i64 1)) 3, none⟩,
      ⟨some 5, .assign (.tmp 11), none⟩]))))))
  (.seq
  (.reg [
    ⟨some 18, .move (.tmp 1), none⟩,
    ⟨some 4, .assign (.tmp 18), none⟩])
  .ret)))
theorem hd37 : Try.f37.body.map dec = some c37 := by kernel_rfl
theorem e37 {R : AV → AH → Prop} {h : AH} (x0 x1 : AV) (H : h.wf → AI Try.prog c37 (RetQ Try.prog [.tmp 4] R) [x0, x1, un, un, un, un, un, un, un, un, un, un, un, un, un, un, un, un, un] h) : AC Try.prog 37 [x0, x1] h R :=
  AC_of' (rs := [.tmp 4]) Try.func37 (by kernel_rfl) hd37 Try.ntmps37 rfl H

/-- laws.markStepS -/
def c66 : IC :=
  (.seq
  (.reg [
    ⟨some 4, .assign (.const (.int .i64 0)), none⟩])
  (.seq
  (.seq
  (.reg [
    ⟨some 5, .assign (.const (.int .i64 0)), none⟩])
  (.block 0
  (.loop
    (.seq
    (.seq
    (.reg [
      ⟨some 6, .move (.tmp 5), none⟩,
      ⟨some 7, .move (.tmp 0), none⟩,
      ⟨some 8, .call { callee := .builtin .len, args := #[.tmp 7], argTypes := #[49] }, none⟩,
      ⟨some 9, .binOp .lss 3 (.tmp 6) (.tmp 8) 3, none⟩])
    (.cond (.tmp 9)
      .skip
      (.exit 0)))
    (.seq
    (.block 1
    (.seq
    (.reg [
      ⟨some 12, .move (.tmp 0), none⟩,
      ⟨some 13, .move (.tmp 5), none⟩,
      ⟨some 14, .move (.tmp 1), none⟩,
      ⟨some 15, .indexAddr 49 (.tmp 12) (.tmp 13), none⟩,
      ⟨some 16, .fieldAddr 73 (.tmp 15) 0, none⟩,
      ⟨none, .store 3 (.tmp 16) (.tmp 14), none⟩])
    (.seq
    (.reg [
      ⟨some 17, .move (.tmp 1), none⟩,
      ⟨some 18, .binOp .add 3 (.tmp 17) (.const (.int .i64 1)) 3, none⟩,
      ⟨some 1, .assign (.tmp 18), none⟩])
    (.seq
    (.reg [
      ⟨some 19, .move (.tmp 0), none⟩,
      ⟨some 20, .move (.tmp 5), none⟩,
      ⟨some 21, .move (.tmp 1), none⟩,
      ⟨some 22, .indexAddr 49 (.tmp 19) (.tmp 20), none⟩,
      ⟨some 23, .fieldAddr 73 (.tmp 22) 1, none⟩,
      ⟨none, .store 3 (.tmp 23) (.tmp 21), none⟩])
    (.reg [
      ⟨some 24, .move (.tmp 1), none⟩,
      ⟨some 25, .binOp .add 3 (.tmp 24) (.const (.int .i64 1)) 3, none⟩,
      ⟨some 1, .assign (.tmp 25), none⟩])))))
    (.reg [
      ⟨some 10, .move (.tmp 5), none⟩,
      ⟨some 11, .binOp .add 3 (.tmp 10) (.const (.int .i64 1)) 3, none⟩,
      ⟨some 5, .assign (.tmp 11), none⟩]))))))
  (.seq
  (.reg [
    ⟨some 26, .move (.tmp 1), none⟩,
    ⟨some 4, .assign (.tmp 26), none⟩])
  .ret)))
theorem hd66 : Try.f66.body.map dec = some c66 := by kernel_rfl
theorem e66 {R : AV → AH → Prop} {h : AH} (x0 x1 : AV) (H : h.wf → AI Try.prog c66 (RetQ Try.prog [.tmp 4] R) [x0, x1, un, un, un, un, un, un, un, un, un, un, un, un, un, un, un, un, un, un, un, un, un, un, un, un, un] h) : AC Try.prog 66 [x0, x1] h R :=
  AC_of' (rs := [.tmp 4]) Try.func66 (by kernel_rfl) hd66 Try.ntmps66 rfl H

/-- laws.markPlan -/
def c31 : IC :=
  (.seq
  (.reg [
    ⟨some 2, .box 51 (.tmp 0), none⟩,
    ⟨some 4, .assign (.const (.int .i64 0)), none⟩])
  (.seq
  (.reg [
    ⟨some 5, .fieldAddr 51 (.tmp 2) 1, none⟩,
    ⟨some 6, .load 49 (.tmp 5), none⟩,
    ⟨some 7, .move (.tmp 1), none⟩,
    ⟨some 8, .call { callee := .value (.func 66), args := #[.tmp 6, .tmp 7], argTypes := #[49, 3] }, none⟩,
    ⟨some 1, .assign (.tmp 8), none⟩])
  (.seq
  (.reg [
    ⟨some 9, .fieldAddr 51 (.tmp 2) 2, none⟩,
    ⟨some 10, .load 31 (.tmp 9), none⟩,
    ⟨some 11, .move (.tmp 1), none⟩,
    ⟨some 12, .call { callee := .value (.func 37), args := #[.tmp 10, .tmp 11], argTypes := #[31, 3] }, none⟩,
    ⟨some 1, .assign (.tmp 12), none⟩])
  (.seq
  (.reg [
    ⟨some 13, .move (.tmp 1), none⟩,
    ⟨some 4, .assign (.tmp 13), none⟩])
  .ret))))
theorem hd31 : Try.f31.body.map dec = some c31 := by kernel_rfl
theorem e31 {R : AV → AH → Prop} {h : AH} (x0 x1 : AV) (H : h.wf → AI Try.prog c31 (RetQ Try.prog [.tmp 4] R) [x0, x1, un, un, un, un, un, un, un, un, un, un, un, un] h) : AC Try.prog 31 [x0, x1] h R :=
  AC_of' (rs := [.tmp 4]) Try.func31 (by kernel_rfl) hd31 Try.ntmps31 rfl H

/-- laws.markIntSS -/
def c32 : IC :=
  (.seq
  (.reg [
    ⟨some 4, .assign (.const (.int .i64 0)), none⟩])
  (.seq
  (.seq
  (.reg [
    ⟨some 5, .assign (.const (.int .i64 0)), none⟩])
  (.block 0
  (.loop
    (.seq
    (.seq
    (.reg [
      ⟨some 6, .move (.tmp 5), none⟩,
      ⟨some 7, .move (.tmp 0), none⟩,
      ⟨some 8, .call { callee := .builtin .len, args := #[.tmp 7], argTypes := #[22] }, none⟩,
      ⟨some 9, .binOp .lss 3 (.tmp 6) (.tmp 8) 3, none⟩])
    (.cond (.tmp 9)
      .skip
      (.exit 0)))
    (.seq
    (.block 1
    (.reg [
      ⟨some 12, .move (.tmp 0), none⟩,
      ⟨some 13, .move (.tmp 5), none⟩,
      ⟨some 14, .indexAddr 22 (.tmp 12) (.tmp 13), none⟩,
      ⟨some 15, .load 31 (.tmp 14), none⟩,
      ⟨some 16, .move (.tmp 1), none⟩,
      ⟨some 17, .call { callee := .value (.func 37), args := #[.tmp 15, .tmp 16], argTypes := #[31, 3] }, none⟩,
      ⟨some 1, .assign (.tmp 17), none⟩]))
    (.reg [
      ⟨some 10, .move (.tmp 5), none⟩,
      ⟨some 11, .binOp .add 3 (.tmp 10) (.const (.int .i64 1)) 3, none⟩,
      ⟨some 5, .assign (.tmp 11), none⟩]))))))
  (.seq
  (.reg [
    ⟨some 18, .move (.tmp 1), none⟩,
    ⟨some 4, .assign (.tmp 18), none⟩])
  .ret)))
theorem hd32 : Try.f32.body.map dec = some c32 := by kernel_rfl
theorem e32 {R : AV → AH → Prop} {h : AH} (x0 x1 : AV) (H : h.wf → AI Try.prog c32 (RetQ Try.prog [.tmp 4] R) [x0, x1, un, un, un, un, un, un, un, un, un, un, un, un, un, un, un, un, un] h) : AC Try.prog 32 [x0, x1] h R :=
  AC_of' (rs := [.tmp 4]) Try.func32 (by kernel_rfl) hd32 Try.ntmps32 rfl H

/-- laws.heldIntS -/
def c38 : IC :=
  (.seq
  (.reg [
    ⟨some 4, .assign (.const (.int .i64 0)), none⟩])
  (.seq
  (.seq
  (.reg [
    ⟨some 5, .assign (.const (.int .i64 0)), none⟩])
  (.block 0
  (.loop
    (.seq
    (.seq
    (.reg [
      ⟨some 6, .move (.tmp 5), none⟩,
      ⟨some 7, .move (.tmp 0), none⟩,
      ⟨some 8, .call { callee := .builtin .len, args := #[.tmp 7], argTypes := #[31] }, none⟩,
      ⟨some 9, .binOp .lss 3 (.tmp 6) (.tmp 8) 3, none⟩])
    (.cond (.tmp 9)
      .skip
      (.exit 0)))
    (.seq
    (.block 1
    (.seq
    (.seq
    (.reg [
      ⟨some 12, .move (.tmp 0), none⟩,
      ⟨some 13, .move (.tmp 5), none⟩,
      ⟨some 14, .indexAddr 31 (.tmp 12) (.tmp 13), none⟩,
      ⟨some 15, .load 3 (.tmp 14), none⟩,
      ⟨some 16, .move (.tmp 1), none⟩,
      ⟨some 17, .binOp .neq 3 (.tmp 15) (.tmp 16) 3, none⟩])
    (.cond (.tmp 17)
      (.seq
      (.reg [
        ⟨some 4, .assign (.const (.int .i64 (-1))), none⟩])
      .ret)
      .skip))
    (.reg [
      ⟨some 18, .move (.tmp 1), none⟩,
      ⟨some 19, .binOp .add 3 (.tmp 18) (.const (.int .i64 1)) 3, none⟩,
      ⟨some 1, .assign (.tmp 19), none⟩])))
    (.reg [
      ⟨some 10, .move (.tmp 5), none⟩,
      ⟨some 11, .binOp .add 3 (.tmp 10) (.const (.int .i64 1)) 3, none⟩,
      ⟨some 5, .assign (.tmp 11), none⟩]))))))
  (.seq
  (.reg [
    ⟨some 20, .move (.tmp 1), none⟩,
    ⟨some 4, .assign (.tmp 20), none⟩])
  .ret)))
theorem hd38 : Try.f38.body.map dec = some c38 := by kernel_rfl
theorem e38 {R : AV → AH → Prop} {h : AH} (x0 x1 : AV) (H : h.wf → AI Try.prog c38 (RetQ Try.prog [.tmp 4] R) [x0, x1, un, un, un, un, un, un, un, un, un, un, un, un, un, un, un, un, un, un, un] h) : AC Try.prog 38 [x0, x1] h R :=
  AC_of' (rs := [.tmp 4]) Try.func38 (by kernel_rfl) hd38 Try.ntmps38 rfl H

/-- laws.heldIntSS -/
def c33 : IC :=
  (.seq
  (.reg [
    ⟨some 4, .assign (.const (.int .i64 0)), none⟩])
  (.seq
  (.seq
  (.reg [
    ⟨some 5, .assign (.const (.int .i64 0)), none⟩])
  (.block 0
  (.loop
    (.seq
    (.seq
    (.reg [
      ⟨some 6, .move (.tmp 5), none⟩,
      ⟨some 7, .move (.tmp 0), none⟩,
      ⟨some 8, .call { callee := .builtin .len, args := #[.tmp 7], argTypes := #[22] }, none⟩,
      ⟨some 9, .binOp .lss 3 (.tmp 6) (.tmp 8) 3, none⟩])
    (.cond (.tmp 9)
      .skip
      (.exit 0)))
    (.seq
    (.block 1
    (.seq
    (.reg [
      ⟨some 12, .move (.tmp 0), none⟩,
      ⟨some 13, .move (.tmp 5), none⟩,
      ⟨some 14, .indexAddr 22 (.tmp 12) (.tmp 13), none⟩,
      ⟨some 15, .load 31 (.tmp 14), none⟩,
      ⟨some 16, .move (.tmp 1), none⟩,
      ⟨some 17, .call { callee := .value (.func 38), args := #[.tmp 15, .tmp 16], argTypes := #[31, 3] }, none⟩,
      ⟨some 1, .assign (.tmp 17), none⟩])
    (.seq
    (.reg [
      ⟨some 18, .move (.tmp 1), none⟩,
      ⟨some 19, .binOp .lss 3 (.tmp 18) (.const (.int .i64 0)) 3, none⟩])
    (.cond (.tmp 19)
      (.seq
      (.reg [
        ⟨some 4, .assign (.const (.int .i64 (-1))), none⟩])
      .ret)
      .skip))))
    (.reg [
      ⟨some 10, .move (.tmp 5), none⟩,
      ⟨some 11, .binOp .add 3 (.tmp 10) (.const (.int .i64 1)) 3, none⟩,
      ⟨some 5, .assign (.tmp 11), none⟩]))))))
  (.seq
  (.reg [
    ⟨some 20, .move (.tmp 1), none⟩,
    ⟨some 4, .assign (.tmp 20), none⟩])
  .ret)))
theorem hd33 : Try.f33.body.map dec = some c33 := by kernel_rfl
theorem e33 {R : AV → AH → Prop} {h : AH} (x0 x1 : AV) (H : h.wf → AI Try.prog c33 (RetQ Try.prog [.tmp 4] R) [x0, x1, un, un, un, un, un, un, un, un, un, un, un, un, un, un, un, un, un, un, un] h) : AC Try.prog 33 [x0, x1] h R :=
  AC_of' (rs := [.tmp 4]) Try.func33 (by kernel_rfl) hd33 Try.ntmps33 rfl H

noncomputable def rg5_0 : Array Oper := rawAt Try.f5 0
/-- laws.FnExactRunPermutations -/
noncomputable def c5 : IC :=
  (.seq
  (.reg [
    ⟨some 2, .box 45 (.tmp 0), none⟩,
    ⟨some 4, .assign (.const (.bool false)), none⟩])
  (.seq
  (.reg [
    ⟨some 5, .assign (.const (.int .i64 1048576)), none⟩])
  (.seq
  (.reg [
    ⟨some 17, .load 45 (.tmp 2), none⟩,
    ⟨some 18, .move (.tmp 5), none⟩,
    ⟨some 19, .call { callee := .value (.func 26), args := #[.tmp 17, .tmp 18], argTypes := #[45, 3] }, none⟩,
    ⟨some 5, .assign (.tmp 19), none⟩])
  (.seq
  (.seq
  (.reg [
    ⟨some 20, .move (.tmp 5), none⟩,
    ⟨some 21, .binOp .lss 3 (.tmp 20) (.const (.int .i64 0)) 3, none⟩])
  (.cond (.tmp 21)
    (.seq
    (.reg [
      ⟨some 4, .assign (.const (.bool true)), none⟩])
    .ret)
    .skip))
  (.seq
  (.reg [
    ⟨some 22, .move (.tmp 1), none⟩,
    ⟨some 23, .move (.tmp 5), none⟩,
    ⟨some 24, .call { callee := .value (.func 10), args := #[.tmp 22, .tmp 23], argTypes := #[22, 3] }, none⟩,
    ⟨some 5, .assign (.tmp 24), none⟩])
  (.seq
  (.seq
  (.reg [
    ⟨some 25, .move (.tmp 5), none⟩,
    ⟨some 26, .binOp .lss 3 (.tmp 25) (.const (.int .i64 0)) 3, none⟩])
  (.cond (.tmp 26)
    (.seq
    (.reg [
      ⟨some 4, .assign (.const (.bool true)), none⟩])
    .ret)
    .skip))
  (.seq
  (.reg [
    ⟨some 28, .load 45 (.tmp 2), none⟩,
    ⟨some 29, .call { callee := .value (.func 28), args := #[.tmp 28], argTypes := #[45] }, none⟩,
    ⟨some 30, .move (.tmp 1), none⟩,
    ⟨some 31, .call { callee := .value (.func 12), args := #[.tmp 30], argTypes := #[22] }, none⟩,
    ⟨some 32, .call { callee := .value (.func 27), args := #[.tmp 29, .tmp 31], argTypes := #[51, 22] }, none⟩,
    ⟨some 27, .move (.tmp 32), none⟩,
    ⟨some 33, .extract (.tmp 27) 0, none⟩,
    ⟨some 34, .extract (.tmp 27) 1, none⟩,
    ⟨some 6, .assign (.tmp 33), none⟩,
    ⟨some 7, .assign (.tmp 34), none⟩])
  (.seq
  (.reg [
    ⟨some 35, .load 45 (.tmp 2), none⟩,
    ⟨some 36, .call { callee := .value (.func 28), args := #[.tmp 35], argTypes := #[45] }, none⟩,
    ⟨some 8, .alloc 51, none⟩,
    ⟨none, .store 51 (.tmp 8) (.tmp 36), none⟩])
  (.seq
  (.reg [
    ⟨some 37, .move (.tmp 1), none⟩,
    ⟨some 38, .call { callee := .value (.func 12), args := #[.tmp 37], argTypes := #[22] }, none⟩,
    ⟨some 9, .assign (.tmp 38), none⟩])
  (.seq
  (.reg [
    ⟨some 40, .load 51 (.tmp 8), none⟩,
    ⟨some 41, .move (.tmp 9), none⟩,
    ⟨some 42, .call { callee := .value (.func 29), args := #[.tmp 40, .tmp 41], argTypes := #[51, 22] }, none⟩,
    ⟨some 39, .move (.tmp 42), none⟩,
    ⟨some 43, .extract (.tmp 39) 0, none⟩,
    ⟨some 44, .extract (.tmp 39) 1, none⟩,
    ⟨some 10, .assign (.tmp 43), none⟩,
    ⟨some 11, .assign (.tmp 44), none⟩])
  (.seq
  (.seq
  (.reg [
    ⟨some 45, .move (.tmp 10), none⟩,
    ⟨some 46, .move (.tmp 6), none⟩,
    ⟨some 47, .call { callee := .value (.func 14), args := #[.tmp 45, .tmp 46], argTypes := #[22, 22] }, none⟩,
    ⟨some 48, .unOp .not 4 (.tmp 47), none⟩,
    ⟨some 49, .move (.tmp 48), none⟩,
    ⟨some 50, .move (.tmp 11), some (49, false)⟩,
    ⟨some 51, .move (.tmp 7), some (49, false)⟩,
    ⟨some 52, .binOp .neq 4 (.tmp 50) (.tmp 51) 4, some (49, false)⟩,
    ⟨some 53, .pick (.tmp 49) (.const (.bool true)) (.tmp 52), none⟩])
  (.cond (.tmp 53)
    (.seq
    (.reg [
      ⟨some 4, .assign (.const (.bool false)), none⟩])
    .ret)
    .skip))
  (.seq
  (.seq
  (.raw (.region 14 rg5_0 true))
  (.cond (.tmp 58)
    (.seq
    (.reg [
      ⟨some 4, .assign (.const (.bool false)), none⟩])
    .ret)
    .skip))
  (.seq
  (.seq
  (.reg [
    ⟨some 59, .move (.tmp 9), none⟩,
    ⟨some 60, .move (.tmp 1), none⟩,
    ⟨some 61, .call { callee := .value (.func 12), args := #[.tmp 60], argTypes := #[22] }, none⟩,
    ⟨some 62, .call { callee := .value (.func 14), args := #[.tmp 59, .tmp 61], argTypes := #[22, 22] }, none⟩,
    ⟨some 63, .unOp .not 4 (.tmp 62), none⟩])
  (.cond (.tmp 63)
    (.seq
    (.reg [
      ⟨some 4, .assign (.const (.bool false)), none⟩])
    .ret)
    .skip))
  (.seq
  (.reg [
    ⟨some 12, .assign (.const (.int .i64 1)), none⟩])
  (.seq
  (.reg [
    ⟨some 64, .load 51 (.tmp 8), none⟩,
    ⟨some 65, .move (.tmp 12), none⟩,
    ⟨some 66, .call { callee := .value (.func 31), args := #[.tmp 64, .tmp 65], argTypes := #[51, 3] }, none⟩,
    ⟨some 12, .assign (.tmp 66), none⟩])
  (.seq
  (.reg [
    ⟨some 67, .move (.tmp 9), none⟩,
    ⟨some 68, .move (.tmp 12), none⟩,
    ⟨some 69, .call { callee := .value (.func 32), args := #[.tmp 67, .tmp 68], argTypes := #[22, 3] }, none⟩,
    ⟨some 12, .assign (.tmp 69), none⟩])
  (.seq
  (.seq
  (.reg [
    ⟨some 70, .move (.tmp 12), none⟩,
    ⟨some 71, .binOp .lss 3 (.tmp 70) (.const (.int .i64 0)) 3, none⟩,
    ⟨some 72, .move (.tmp 71), none⟩,
    ⟨some 73, .move (.tmp 10), some (72, false)⟩,
    ⟨some 74, .move (.tmp 6), some (72, false)⟩,
    ⟨some 75, .call { callee := .value (.func 14), args := #[.tmp 73, .tmp 74], argTypes := #[22, 22] }, some (72, false)⟩,
    ⟨some 76, .unOp .not 4 (.tmp 75), some (72, false)⟩,
    ⟨some 77, .pick (.tmp 72) (.const (.bool true)) (.tmp 76), none⟩,
    ⟨some 78, .move (.tmp 77), none⟩,
    ⟨some 79, .move (.tmp 11), some (78, false)⟩,
    ⟨some 80, .move (.tmp 7), some (78, false)⟩,
    ⟨some 81, .binOp .neq 4 (.tmp 79) (.tmp 80) 4, some (78, false)⟩,
    ⟨some 82, .pick (.tmp 78) (.const (.bool true)) (.tmp 81), none⟩])
  (.cond (.tmp 82)
    (.seq
    (.reg [
      ⟨some 4, .assign (.const (.bool false)), none⟩])
    .ret)
    .skip))
  (.seq
  (.reg [
    ⟨some 13, .assign (.const (.int .i64 1)), none⟩])
  (.seq
  (.reg [
    ⟨some 83, .move (.tmp 10), none⟩,
    ⟨some 84, .move (.tmp 13), none⟩,
    ⟨some 85, .call { callee := .value (.func 32), args := #[.tmp 83, .tmp 84], argTypes := #[22, 3] }, none⟩,
    ⟨some 13, .assign (.tmp 85), none⟩])
  (.seq
  (.reg [
    ⟨some 14, .assign (.const (.int .i64 1)), none⟩])
  (.seq
  (.reg [
    ⟨some 86, .move (.tmp 10), none⟩,
    ⟨some 87, .move (.tmp 14), none⟩,
    ⟨some 88, .call { callee := .value (.func 33), args := #[.tmp 86, .tmp 87], argTypes := #[22, 3] }, none⟩,
    ⟨some 14, .assign (.tmp 88), none⟩])
  (.seq
  (.seq
  (.reg [
    ⟨some 89, .move (.tmp 14), none⟩,
    ⟨some 90, .binOp .lss 3 (.tmp 89) (.const (.int .i64 0)) 3, none⟩])
  (.cond (.tmp 90)
    (.seq
    (.reg [
      ⟨some 4, .assign (.const (.bool false)), none⟩])
    .ret)
    .skip))
  (.seq
  (.seq
  (.reg [
    ⟨some 91, .move (.tmp 14), none⟩,
    ⟨some 92, .move (.tmp 13), none⟩,
    ⟨some 93, .binOp .neq 3 (.tmp 91) (.tmp 92) 3, none⟩])
  (.cond (.tmp 93)
    (.seq
    (.reg [
      ⟨some 4, .assign (.const (.bool false)), none⟩])
    .ret)
    .skip))
  (.seq
  (.reg [
    ⟨some 95, .load 45 (.tmp 2), none⟩,
    ⟨some 96, .call { callee := .value (.func 28), args := #[.tmp 95], argTypes := #[45] }, none⟩,
    ⟨some 97, .move (.tmp 1), none⟩,
    ⟨some 98, .call { callee := .value (.func 12), args := #[.tmp 97], argTypes := #[22] }, none⟩,
    ⟨some 99, .call { callee := .value (.func 29), args := #[.tmp 96, .tmp 98], argTypes := #[51, 22] }, none⟩,
    ⟨some 94, .move (.tmp 99), none⟩,
    ⟨some 100, .extract (.tmp 94) 0, none⟩,
    ⟨some 101, .extract (.tmp 94) 1, none⟩,
    ⟨some 15, .assign (.tmp 100), none⟩,
    ⟨some 16, .assign (.tmp 101), none⟩])
  (.seq
  (.seq
  (.reg [
    ⟨some 102, .move (.tmp 15), none⟩,
    ⟨some 103, .move (.tmp 6), none⟩,
    ⟨some 104, .call { callee := .value (.func 14), args := #[.tmp 102, .tmp 103], argTypes := #[22, 22] }, none⟩,
    ⟨some 105, .unOp .not 4 (.tmp 104), none⟩,
    ⟨some 106, .move (.tmp 105), none⟩,
    ⟨some 107, .move (.tmp 16), some (106, false)⟩,
    ⟨some 108, .move (.tmp 7), some (106, false)⟩,
    ⟨some 109, .binOp .neq 4 (.tmp 107) (.tmp 108) 4, some (106, false)⟩,
    ⟨some 110, .pick (.tmp 106) (.const (.bool true)) (.tmp 109), none⟩])
  (.cond (.tmp 110)
    (.seq
    (.reg [
      ⟨some 4, .assign (.const (.bool false)), none⟩])
    .ret)
    .skip))
  (.seq
  (.reg [
    ⟨some 14, .assign (.const (.int .i64 1)), none⟩])
  (.seq
  (.reg [
    ⟨some 111, .move (.tmp 10), none⟩,
    ⟨some 112, .move (.tmp 14), none⟩,
    ⟨some 113, .call { callee := .value (.func 33), args := #[.tmp 111, .tmp 112], argTypes := #[22, 3] }, none⟩,
    ⟨some 14, .assign (.tmp 113), none⟩])
  (.seq
  (.seq
  (.reg [
    ⟨some 114, .move (.tmp 14), none⟩,
    ⟨some 115, .binOp .lss 3 (.tmp 114) (.const (.int .i64 0)) 3, none⟩])
  (.cond (.tmp 115)
    (.seq
    (.reg [
      ⟨some 4, .assign (.const (.bool false)), none⟩])
    .ret)
    .skip))
  (.seq
  (.seq
  (.reg [
    ⟨some 116, .move (.tmp 14), none⟩,
    ⟨some 117, .move (.tmp 13), none⟩,
    ⟨some 118, .binOp .neq 3 (.tmp 116) (.tmp 117) 3, none⟩])
  (.cond (.tmp 118)
    (.seq
    (.reg [
      ⟨some 4, .assign (.const (.bool false)), none⟩])
    .ret)
    .skip))
  (.seq
  (.reg [
    ⟨some 4, .assign (.const (.bool true)), none⟩])
  .ret))))))))))))))))))))))))))))))
theorem hd5 : Try.f5.body.map dec = some c5 := by kernel_rfl
theorem e5 {R : AV → AH → Prop} {h : AH} (x0 x1 : AV) (H : h.wf → AI Try.prog c5 (RetQ Try.prog [.tmp 4] R) [x0, x1, un, un, un, un, un, un, un, un, un, un, un, un, un, un, un, un, un, un, un, un, un, un, un, un, un, un, un, un, un, un, un, un, un, un, un, un, un, un, un, un, un, un, un, un, un, un, un, un, un, un, un, un, un, un, un, un, un, un, un, un, un, un, un, un, un, un, un, un, un, un, un, un, un, un, un, un, un, un, un, un, un, un, un, un, un, un, un, un, un, un, un, un, un, un, un, un, un, un, un, un, un, un, un, un, un, un, un, un, un, un, un, un, un, un, un, un, un] h) : AC Try.prog 5 [x0, x1] h R :=
  AC_of' (rs := [.tmp 4]) Try.func5 (by kernel_rfl) hd5 Try.ntmps5 rfl H
theorem dz5_0 {h0 : AH} {L : List It} {Q : Exit → List AV → List It → Prop} {a : List AV} {id : Nat} (H : LX Try.prog ⟨[], []⟩ h0 L L (.c (⟨some 54, .load 51 (.tmp 8), none⟩, .l) <| .c (⟨some 55, .load 45 (.tmp 2), none⟩, .l) <| .c (⟨some 56, .call { callee := .value (.func 28), args := #[.tmp 55], argTypes := #[45] }, none⟩, .e) <| .c (⟨some 57, .call { callee := .value (.func 30), args := #[.tmp 54, .tmp 56], argTypes := #[51, 51] }, none⟩, .e) <| .c (⟨some 58, .unOp .not 4 (.tmp 57), none⟩, .p) <| .n) Q a) : LI Try.prog h0 L (.raw (.region id rg5_0 true)) Q a :=
  LI_draw (.c (0, .l) <| .c (1, .l) <| .c (2, .e) <| .c (3, .e) <| .c (4, .p) <| .n) [] (by kernel_rfl) (by kernel_rfl) (by kernel_rfl) H
theorem db5_0 {h0 : AH} {L : List It} {Q : Exit → List AV → List It → Prop} {a : List AV} {id : Nat} (K : List (Nat × List AV)) (hK : ∀ x ∈ K, It.pt x.1 x.2 ∈ L) (H : LX Try.prog ⟨[2, 3], K⟩ h0 L L (.c (⟨some 55, .load 45 (.tmp 2), none⟩, .l) <| .t (.c (⟨some 54, .load 51 (.tmp 8), none⟩, .e) <| .c (⟨some 56, .call { callee := .value (.func 28), args := #[.tmp 55], argTypes := #[45] }, none⟩, .f) <| .c (⟨some 57, .call { callee := .value (.func 30), args := #[.tmp 54, .tmp 56], argTypes := #[51, 51] }, none⟩, .f) <| .c (⟨some 58, .unOp .not 4 (.tmp 57), none⟩, .p) <| .n) (.c (⟨some 56, .call { callee := .value (.func 28), args := #[.tmp 55], argTypes := #[45] }, none⟩, .f) <| .c (⟨some 54, .load 51 (.tmp 8), none⟩, .e) <| .c (⟨some 57, .call { callee := .value (.func 30), args := #[.tmp 54, .tmp 56], argTypes := #[51, 51] }, none⟩, .f) <| .c (⟨some 58, .unOp .not 4 (.tmp 57), none⟩, .p) <| .n)) Q a) : LI Try.prog h0 L (.raw (.region id rg5_0 true)) Q a :=
  LI_drawK (.c (1, .l) <| .t (.c (0, .e) <| .c (2, .f) <| .c (3, .f) <| .c (4, .p) <| .n) (.c (2, .f) <| .c (0, .e) <| .c (3, .f) <| .c (4, .p) <| .n)) [2, 3] K hK (by kernel_rfl) (by kernel_rfl) (by kernel_rfl) H
theorem dr5_0 (m : Nat) {Q : Exit → List AV → AH → Prop} {a : List AV} {h : AH} {id : Nat} (H : AX Try.prog m h [(⟨some 54, .load 51 (.tmp 8), none⟩, true),
  (⟨some 55, .load 45 (.tmp 2), none⟩, true),
  (⟨some 56, .call { callee := .value (.func 28), args := #[.tmp 55], argTypes := #[45] }, none⟩, false),
  (⟨some 57, .call { callee := .value (.func 30), args := #[.tmp 54, .tmp 56], argTypes := #[51, 51] }, none⟩, false),
  (⟨some 58, .unOp .not 4 (.tmp 57), none⟩, true)] (fun a' h' => Q .normal a' h') a h) : AI Try.prog (.raw (.region id rg5_0 true)) Q a h :=
  AI_draw [(0, true), (1, true), (2, false), (3, false), (4, true)] m (by kernel_rfl) (by kernel_rfl) (by kernel_rfl) H

end Go.Proofs.Ytcopnjopglfllaa
