/- The short forms of the functions' code, and facts on types. -/
import Derived.Test.YtinnajihcpldlaaProg
import Derived.Test.YtinnajihcpldlaaD2
namespace Go.Proofs.Ytinnajihcpldlaa
open Go.AL
set_option linter.unusedVariables false
theorem sz0 : szT Try.prog 0 = some 1 := by kernel_rfl
theorem by0 : byT Try.prog 0 = some 0 := by kernel_rfl
theorem ag0 : aggT Try.prog 0 = some false := by kernel_rfl
instance jsz0 : Tsz Try.prog 0 1 := ⟨sz0⟩
instance jby0 : Tby Try.prog 0 0 := ⟨by0⟩
instance jag0 : Tag Try.prog 0 false := ⟨ag0⟩
theorem sz1 : szT Try.prog 1 = some 1 := by kernel_rfl
theorem by1 : byT Try.prog 1 = some 8 := by kernel_rfl
theorem ag1 : aggT Try.prog 1 = some false := by kernel_rfl
instance jsz1 : Tsz Try.prog 1 1 := ⟨sz1⟩
instance jby1 : Tby Try.prog 1 8 := ⟨by1⟩
instance jag1 : Tag Try.prog 1 false := ⟨ag1⟩
theorem ze1 : zeroA Try.prog 1 = some .nf := by kernel_rfl
instance jze1 : Tze Try.prog 1 (.nf) := ⟨ze1⟩
theorem sz2 : szT Try.prog 2 = some 1 := by kernel_rfl
theorem by2 : byT Try.prog 2 = some 8 := by kernel_rfl
theorem ag2 : aggT Try.prog 2 = some false := by kernel_rfl
instance jsz2 : Tsz Try.prog 2 1 := ⟨sz2⟩
instance jby2 : Tby Try.prog 2 8 := ⟨by2⟩
instance jag2 : Tag Try.prog 2 false := ⟨ag2⟩
instance jik2 : Tik Try.prog 2 .i64 := ⟨Try.underlying2⟩
theorem ze2 : zeroA Try.prog 2 = some (.i .i64 0) := by kernel_rfl
instance jze2 : Tze Try.prog 2 (.i .i64 0) := ⟨ze2⟩
theorem sz3 : szT Try.prog 3 = some 1 := by kernel_rfl
theorem by3 : byT Try.prog 3 = some 8 := by kernel_rfl
theorem ag3 : aggT Try.prog 3 = some false := by kernel_rfl
instance jsz3 : Tsz Try.prog 3 1 := ⟨sz3⟩
instance jby3 : Tby Try.prog 3 8 := ⟨by3⟩
instance jag3 : Tag Try.prog 3 false := ⟨ag3⟩
instance jik3 : Tik Try.prog 3 .i64 := ⟨Try.underlying3⟩
theorem ze3 : zeroA Try.prog 3 = some (.i .i64 0) := by kernel_rfl
instance jze3 : Tze Try.prog 3 (.i .i64 0) := ⟨ze3⟩
theorem sz4 : szT Try.prog 4 = some 1 := by kernel_rfl
theorem by4 : byT Try.prog 4 = some 1 := by kernel_rfl
theorem ag4 : aggT Try.prog 4 = some false := by kernel_rfl
instance jsz4 : Tsz Try.prog 4 1 := ⟨sz4⟩
instance jby4 : Tby Try.prog 4 1 := ⟨by4⟩
instance jag4 : Tag Try.prog 4 false := ⟨ag4⟩
instance jbo4 : Tbo Try.prog 4 := ⟨Try.underlying4⟩
theorem ze4 : zeroA Try.prog 4 = some (.b false) := by kernel_rfl
instance jze4 : Tze Try.prog 4 (.b false) := ⟨ze4⟩
theorem sz5 : szT Try.prog 5 = some 1 := by kernel_rfl
theorem by5 : byT Try.prog 5 = some 1 := by kernel_rfl
theorem ag5 : aggT Try.prog 5 = some false := by kernel_rfl
instance jsz5 : Tsz Try.prog 5 1 := ⟨sz5⟩
instance jby5 : Tby Try.prog 5 1 := ⟨by5⟩
instance jag5 : Tag Try.prog 5 false := ⟨ag5⟩
instance jik5 : Tik Try.prog 5 .u8 := ⟨Try.underlying5⟩
theorem ze5 : zeroA Try.prog 5 = some (.i .u8 0) := by kernel_rfl
instance jze5 : Tze Try.prog 5 (.i .u8 0) := ⟨ze5⟩
theorem sz6 : szT Try.prog 6 = some 1 := by kernel_rfl
theorem by6 : byT Try.prog 6 = some 1 := by kernel_rfl
theorem ag6 : aggT Try.prog 6 = some false := by kernel_rfl
instance jsz6 : Tsz Try.prog 6 1 := ⟨sz6⟩
instance jby6 : Tby Try.prog 6 1 := ⟨by6⟩
instance jag6 : Tag Try.prog 6 false := ⟨ag6⟩
instance jik6 : Tik Try.prog 6 .u8 := ⟨Try.underlying6⟩
theorem ze6 : zeroA Try.prog 6 = some (.i .u8 0) := by kernel_rfl
instance jze6 : Tze Try.prog 6 (.i .u8 0) := ⟨ze6⟩
theorem sz8 : szT Try.prog 8 = some 4 := by kernel_rfl
theorem by8 : byT Try.prog 8 = some 24 := by kernel_rfl
theorem ag8 : aggT Try.prog 8 = some true := by kernel_rfl
instance jsz8 : Tsz Try.prog 8 4 := ⟨sz8⟩
instance jby8 : Tby Try.prog 8 24 := ⟨by8⟩
instance jag8 : Tag Try.prog 8 true := ⟨ag8⟩
theorem ze8 : zeroA Try.prog 8 = some (.agg [(.i .i64 0), (.i .i64 0), (.b false), (.i .u8 0)]) := by kernel_rfl
instance jze8 : Tze Try.prog 8 (.agg [(.i .i64 0), (.i .i64 0), (.b false), (.i .u8 0)]) := ⟨ze8⟩
theorem fl8_0 : fldA Try.prog 8 0 = some (0, 1, false) := by kernel_rfl
instance jfl8_0 : Tfl Try.prog 8 0 0 1 false := ⟨fl8_0⟩
theorem fl8_1 : fldA Try.prog 8 1 = some (1, 1, false) := by kernel_rfl
instance jfl8_1 : Tfl Try.prog 8 1 1 1 false := ⟨fl8_1⟩
theorem fl8_2 : fldA Try.prog 8 2 = some (2, 1, false) := by kernel_rfl
instance jfl8_2 : Tfl Try.prog 8 2 2 1 false := ⟨fl8_2⟩
theorem fl8_3 : fldA Try.prog 8 3 = some (3, 1, false) := by kernel_rfl
instance jfl8_3 : Tfl Try.prog 8 3 3 1 false := ⟨fl8_3⟩
theorem pa8 : plA Try.prog 8 = some [(0, 1), (1, 1), (2, 1), (3, 1)] := by kernel_rfl
instance jpl8 : Tpl Try.prog 8 [(0, 1), (1, 1), (2, 1), (3, 1)] := ⟨pa8⟩
theorem sz22 : szT Try.prog 22 = some 1 := by kernel_rfl
theorem by22 : byT Try.prog 22 = some 24 := by kernel_rfl
theorem ag22 : aggT Try.prog 22 = some false := by kernel_rfl
instance jsz22 : Tsz Try.prog 22 1 := ⟨sz22⟩
instance jby22 : Tby Try.prog 22 24 := ⟨by22⟩
instance jag22 : Tag Try.prog 22 false := ⟨ag22⟩
instance jsl22 : Tsl Try.prog 22 5 := ⟨Try.underlying22⟩
theorem ze22 : zeroA Try.prog 22 = some .ns := by kernel_rfl
instance jze22 : Tze Try.prog 22 (.ns) := ⟨ze22⟩
theorem sz24 : szT Try.prog 24 = some 1 := by kernel_rfl
theorem by24 : byT Try.prog 24 = some 24 := by kernel_rfl
theorem ag24 : aggT Try.prog 24 = some false := by kernel_rfl
instance jsz24 : Tsz Try.prog 24 1 := ⟨sz24⟩
instance jby24 : Tby Try.prog 24 24 := ⟨by24⟩
instance jag24 : Tag Try.prog 24 false := ⟨ag24⟩
instance jsl24 : Tsl Try.prog 24 70 := ⟨Try.underlying24⟩
theorem ze24 : zeroA Try.prog 24 = some .ns := by kernel_rfl
instance jze24 : Tze Try.prog 24 (.ns) := ⟨ze24⟩
theorem sz25 : szT Try.prog 25 = some 1 := by kernel_rfl
theorem by25 : byT Try.prog 25 = some 24 := by kernel_rfl
theorem ag25 : aggT Try.prog 25 = some false := by kernel_rfl
instance jsz25 : Tsz Try.prog 25 1 := ⟨sz25⟩
instance jby25 : Tby Try.prog 25 24 := ⟨by25⟩
instance jag25 : Tag Try.prog 25 false := ⟨ag25⟩
instance jsl25 : Tsl Try.prog 25 3 := ⟨Try.underlying25⟩
theorem ze25 : zeroA Try.prog 25 = some .ns := by kernel_rfl
instance jze25 : Tze Try.prog 25 (.ns) := ⟨ze25⟩
theorem sz27 : szT Try.prog 27 = some 3 := by kernel_rfl
theorem by27 : byT Try.prog 27 = some 56 := by kernel_rfl
theorem ag27 : aggT Try.prog 27 = some true := by kernel_rfl
instance jsz27 : Tsz Try.prog 27 3 := ⟨sz27⟩
instance jby27 : Tby Try.prog 27 56 := ⟨by27⟩
instance jag27 : Tag Try.prog 27 true := ⟨ag27⟩
theorem ze27 : zeroA Try.prog 27 = some (.agg [(.i .i64 0), .ns, .ns]) := by kernel_rfl
instance jze27 : Tze Try.prog 27 (.agg [(.i .i64 0), .ns, .ns]) := ⟨ze27⟩
theorem fl27_0 : fldA Try.prog 27 0 = some (0, 1, false) := by kernel_rfl
instance jfl27_0 : Tfl Try.prog 27 0 0 1 false := ⟨fl27_0⟩
theorem fl27_1 : fldA Try.prog 27 1 = some (1, 1, false) := by kernel_rfl
instance jfl27_1 : Tfl Try.prog 27 1 1 1 false := ⟨fl27_1⟩
theorem fl27_2 : fldA Try.prog 27 2 = some (2, 1, false) := by kernel_rfl
instance jfl27_2 : Tfl Try.prog 27 2 2 1 false := ⟨fl27_2⟩
theorem pa27 : plA Try.prog 27 = some [(0, 1), (1, 1), (2, 1)] := by kernel_rfl
instance jpl27 : Tpl Try.prog 27 [(0, 1), (1, 1), (2, 1)] := ⟨pa27⟩
theorem sz28 : szT Try.prog 28 = some 1 := by kernel_rfl
theorem by28 : byT Try.prog 28 = some 24 := by kernel_rfl
theorem ag28 : aggT Try.prog 28 = some false := by kernel_rfl
instance jsz28 : Tsz Try.prog 28 1 := ⟨sz28⟩
instance jby28 : Tby Try.prog 28 24 := ⟨by28⟩
instance jag28 : Tag Try.prog 28 false := ⟨ag28⟩
instance jsl28 : Tsl Try.prog 28 37 := ⟨Try.underlying28⟩
theorem ze28 : zeroA Try.prog 28 = some .ns := by kernel_rfl
instance jze28 : Tze Try.prog 28 (.ns) := ⟨ze28⟩
theorem sz33 : szT Try.prog 33 = some 1 := by kernel_rfl
theorem by33 : byT Try.prog 33 = some 24 := by kernel_rfl
theorem ag33 : aggT Try.prog 33 = some false := by kernel_rfl
instance jsz33 : Tsz Try.prog 33 1 := ⟨sz33⟩
instance jby33 : Tby Try.prog 33 24 := ⟨by33⟩
instance jag33 : Tag Try.prog 33 false := ⟨ag33⟩
instance jsl33 : Tsl Try.prog 33 25 := ⟨Try.underlying33⟩
theorem ze33 : zeroA Try.prog 33 = some .ns := by kernel_rfl
instance jze33 : Tze Try.prog 33 (.ns) := ⟨ze33⟩
theorem sz37 : szT Try.prog 37 = some 4 := by kernel_rfl
theorem by37 : byT Try.prog 37 = some 32 := by kernel_rfl
theorem ag37 : aggT Try.prog 37 = some true := by kernel_rfl
instance jsz37 : Tsz Try.prog 37 4 := ⟨sz37⟩
instance jby37 : Tby Try.prog 37 32 := ⟨by37⟩
instance jag37 : Tag Try.prog 37 true := ⟨ag37⟩
theorem ze37 : zeroA Try.prog 37 = some (.agg [(.i .i64 0), (.i .i64 0), (.i .i64 0), (.i .i64 0)]) := by kernel_rfl
instance jze37 : Tze Try.prog 37 (.agg [(.i .i64 0), (.i .i64 0), (.i .i64 0), (.i .i64 0)]) := ⟨ze37⟩
theorem fl37_0 : fldA Try.prog 37 0 = some (0, 1, false) := by kernel_rfl
instance jfl37_0 : Tfl Try.prog 37 0 0 1 false := ⟨fl37_0⟩
theorem fl37_1 : fldA Try.prog 37 1 = some (1, 1, false) := by kernel_rfl
instance jfl37_1 : Tfl Try.prog 37 1 1 1 false := ⟨fl37_1⟩
theorem fl37_2 : fldA Try.prog 37 2 = some (2, 1, false) := by kernel_rfl
instance jfl37_2 : Tfl Try.prog 37 2 2 1 false := ⟨fl37_2⟩
theorem fl37_3 : fldA Try.prog 37 3 = some (3, 1, false) := by kernel_rfl
instance jfl37_3 : Tfl Try.prog 37 3 3 1 false := ⟨fl37_3⟩
theorem pa37 : plA Try.prog 37 = some [(0, 1), (1, 1), (2, 1), (3, 1)] := by kernel_rfl
instance jpl37 : Tpl Try.prog 37 [(0, 1), (1, 1), (2, 1), (3, 1)] := ⟨pa37⟩
theorem sz48 : szT Try.prog 48 = some 1 := by kernel_rfl
theorem by48 : byT Try.prog 48 = some 8 := by kernel_rfl
theorem ag48 : aggT Try.prog 48 = some false := by kernel_rfl
instance jsz48 : Tsz Try.prog 48 1 := ⟨sz48⟩
instance jby48 : Tby Try.prog 48 8 := ⟨by48⟩
instance jag48 : Tag Try.prog 48 false := ⟨ag48⟩
theorem ze48 : zeroA Try.prog 48 = some .np := by kernel_rfl
instance jze48 : Tze Try.prog 48 (.np) := ⟨ze48⟩
theorem sz49 : szT Try.prog 49 = some 1 := by kernel_rfl
theorem by49 : byT Try.prog 49 = some 8 := by kernel_rfl
theorem ag49 : aggT Try.prog 49 = some false := by kernel_rfl
instance jsz49 : Tsz Try.prog 49 1 := ⟨sz49⟩
instance jby49 : Tby Try.prog 49 8 := ⟨by49⟩
instance jag49 : Tag Try.prog 49 false := ⟨ag49⟩
instance jik49 : Tik Try.prog 49 .u64 := ⟨Try.underlying49⟩
theorem ze49 : zeroA Try.prog 49 = some (.i .u64 0) := by kernel_rfl
instance jze49 : Tze Try.prog 49 (.i .u64 0) := ⟨ze49⟩
theorem sz51 : szT Try.prog 51 = some 3 := by kernel_rfl
theorem by51 : byT Try.prog 51 = some 40 := by kernel_rfl
theorem ag51 : aggT Try.prog 51 = some true := by kernel_rfl
instance jsz51 : Tsz Try.prog 51 3 := ⟨sz51⟩
instance jby51 : Tby Try.prog 51 40 := ⟨by51⟩
instance jag51 : Tag Try.prog 51 true := ⟨ag51⟩
theorem ze51 : zeroA Try.prog 51 = some (.agg [.ns, (.i .i64 0), (.i .u64 0)]) := by kernel_rfl
instance jze51 : Tze Try.prog 51 (.agg [.ns, (.i .i64 0), (.i .u64 0)]) := ⟨ze51⟩
theorem fl51_0 : fldA Try.prog 51 0 = some (0, 1, false) := by kernel_rfl
instance jfl51_0 : Tfl Try.prog 51 0 0 1 false := ⟨fl51_0⟩
theorem fl51_1 : fldA Try.prog 51 1 = some (1, 1, false) := by kernel_rfl
instance jfl51_1 : Tfl Try.prog 51 1 1 1 false := ⟨fl51_1⟩
theorem fl51_2 : fldA Try.prog 51 2 = some (2, 1, false) := by kernel_rfl
instance jfl51_2 : Tfl Try.prog 51 2 2 1 false := ⟨fl51_2⟩
theorem pa51 : plA Try.prog 51 = some [(0, 1), (1, 1), (2, 1)] := by kernel_rfl
instance jpl51 : Tpl Try.prog 51 [(0, 1), (1, 1), (2, 1)] := ⟨pa51⟩
theorem sz55 : szT Try.prog 55 = some 1 := by kernel_rfl
theorem by55 : byT Try.prog 55 = some 8 := by kernel_rfl
theorem ag55 : aggT Try.prog 55 = some false := by kernel_rfl
instance jsz55 : Tsz Try.prog 55 1 := ⟨sz55⟩
instance jby55 : Tby Try.prog 55 8 := ⟨by55⟩
instance jag55 : Tag Try.prog 55 false := ⟨ag55⟩
theorem ze55 : zeroA Try.prog 55 = some .nf := by kernel_rfl
instance jze55 : Tze Try.prog 55 (.nf) := ⟨ze55⟩
theorem sz60 : szT Try.prog 60 = some 1 := by kernel_rfl
theorem by60 : byT Try.prog 60 = some 8 := by kernel_rfl
theorem ag60 : aggT Try.prog 60 = some false := by kernel_rfl
instance jsz60 : Tsz Try.prog 60 1 := ⟨sz60⟩
instance jby60 : Tby Try.prog 60 8 := ⟨by60⟩
instance jag60 : Tag Try.prog 60 false := ⟨ag60⟩
theorem ze60 : zeroA Try.prog 60 = some .nf := by kernel_rfl
instance jze60 : Tze Try.prog 60 (.nf) := ⟨ze60⟩
theorem sz62 : szT Try.prog 62 = some 1 := by kernel_rfl
theorem by62 : byT Try.prog 62 = some 8 := by kernel_rfl
theorem ag62 : aggT Try.prog 62 = some false := by kernel_rfl
instance jsz62 : Tsz Try.prog 62 1 := ⟨sz62⟩
instance jby62 : Tby Try.prog 62 8 := ⟨by62⟩
instance jag62 : Tag Try.prog 62 false := ⟨ag62⟩
theorem ze62 : zeroA Try.prog 62 = some .nf := by kernel_rfl
instance jze62 : Tze Try.prog 62 (.nf) := ⟨ze62⟩
theorem sz64 : szT Try.prog 64 = some 1 := by kernel_rfl
theorem by64 : byT Try.prog 64 = some 8 := by kernel_rfl
theorem ag64 : aggT Try.prog 64 = some false := by kernel_rfl
instance jsz64 : Tsz Try.prog 64 1 := ⟨sz64⟩
instance jby64 : Tby Try.prog 64 8 := ⟨by64⟩
instance jag64 : Tag Try.prog 64 false := ⟨ag64⟩
theorem ze64 : zeroA Try.prog 64 = some .np := by kernel_rfl
instance jze64 : Tze Try.prog 64 (.np) := ⟨ze64⟩
theorem sz66 : szT Try.prog 66 = some 1 := by kernel_rfl
theorem by66 : byT Try.prog 66 = some 8 := by kernel_rfl
theorem ag66 : aggT Try.prog 66 = some false := by kernel_rfl
instance jsz66 : Tsz Try.prog 66 1 := ⟨sz66⟩
instance jby66 : Tby Try.prog 66 8 := ⟨by66⟩
instance jag66 : Tag Try.prog 66 false := ⟨ag66⟩
theorem ze66 : zeroA Try.prog 66 = some .nf := by kernel_rfl
instance jze66 : Tze Try.prog 66 (.nf) := ⟨ze66⟩
theorem sz70 : szT Try.prog 70 = some 2 := by kernel_rfl
theorem by70 : byT Try.prog 70 = some 16 := by kernel_rfl
theorem ag70 : aggT Try.prog 70 = some true := by kernel_rfl
instance jsz70 : Tsz Try.prog 70 2 := ⟨sz70⟩
instance jby70 : Tby Try.prog 70 16 := ⟨by70⟩
instance jag70 : Tag Try.prog 70 true := ⟨ag70⟩
theorem ze70 : zeroA Try.prog 70 = some (.agg [(.i .i64 0), (.i .i64 0)]) := by kernel_rfl
instance jze70 : Tze Try.prog 70 (.agg [(.i .i64 0), (.i .i64 0)]) := ⟨ze70⟩
theorem fl70_0 : fldA Try.prog 70 0 = some (0, 1, false) := by kernel_rfl
instance jfl70_0 : Tfl Try.prog 70 0 0 1 false := ⟨fl70_0⟩
theorem fl70_1 : fldA Try.prog 70 1 = some (1, 1, false) := by kernel_rfl
instance jfl70_1 : Tfl Try.prog 70 1 1 1 false := ⟨fl70_1⟩
theorem pa70 : plA Try.prog 70 = some [(0, 1), (1, 1)] := by kernel_rfl
instance jpl70 : Tpl Try.prog 70 [(0, 1), (1, 1)] := ⟨pa70⟩
theorem sz87 : szT Try.prog 87 = some 1 := by kernel_rfl
theorem by87 : byT Try.prog 87 = some 8 := by kernel_rfl
theorem ag87 : aggT Try.prog 87 = some false := by kernel_rfl
instance jsz87 : Tsz Try.prog 87 1 := ⟨sz87⟩
instance jby87 : Tby Try.prog 87 8 := ⟨by87⟩
instance jag87 : Tag Try.prog 87 false := ⟨ag87⟩
theorem ze87 : zeroA Try.prog 87 = some .nf := by kernel_rfl
instance jze87 : Tze Try.prog 87 (.nf) := ⟨ze87⟩

/-- laws.big -/
def c5 : IC :=
  (.seq
  (.reg [
    ⟨some 4, .assign (.const (.bool false)), none⟩])
  (.seq
  (.reg [
    ⟨some 5, .move (.tmp 0), none⟩,
    ⟨some 6, .call { callee := .builtin .len, args := #[.tmp 5], argTypes := #[22] }, none⟩,
    ⟨some 7, .binOp .gtr 3 (.tmp 6) (.const (.int .i64 1048576)) 3, none⟩,
    ⟨some 8, .move (.tmp 7), none⟩,
    ⟨some 9, .move (.tmp 1), some (8, false)⟩,
    ⟨some 10, .call { callee := .builtin .len, args := #[.tmp 9], argTypes := #[22] }, some (8, false)⟩,
    ⟨some 11, .move (.tmp 0), some (8, false)⟩,
    ⟨some 12, .call { callee := .builtin .len, args := #[.tmp 11], argTypes := #[22] }, some (8, false)⟩,
    ⟨some 13, .binOp .sub 3 (.const (.int .i64 1048576)) (.tmp 12) 3, some (8, false)⟩,
    ⟨some 14, .binOp .gtr 3 (.tmp 10) (.tmp 13) 3, some (8, false)⟩,
    ⟨some 15, .pick (.tmp 8) (.const (.bool true)) (.tmp 14), none⟩,
    ⟨some 4, .assign (.tmp 15), none⟩])
  .ret))
theorem hd5 : Try.f5.body.map dec = some c5 := by kernel_rfl
theorem e5 {R : AV → AH → Prop} {h : AH} (x0 x1 : AV) (H : h.wf → AI Try.prog c5 (RetQ Try.prog [.tmp 4] R) [x0, x1, un, un, un, un, un, un, un, un, un, un, un, un, un, un] h) : AC Try.prog 5 [x0, x1] h R :=
  AC_of' (rs := [.tmp 4]) Try.func5 (by kernel_rfl) hd5 Try.ntmps5 rfl H

noncomputable def rg72_0 : Array Oper := rawAt Try.f72 0
noncomputable def rg72_1 : Array Oper := rawAt Try.f72 1
noncomputable def rg72_2 : Array Oper := rawAt Try.f72 2
/-- (*spec.l1Cur).next -/
noncomputable def c72 : IC :=
  (.seq
  (.reg [
    ⟨some 2, .assign (.const (.int .i64 0)), none⟩])
  (.seq
  (.reg [
    ⟨some 3, .assign (.const (.int .i64 0)), none⟩])
  (.seq
  (.seq
  (.raw (.region 2 rg72_0 true))
  (.cond (.tmp 13)
    (.raw (.region 3 rg72_1 true))
    .skip))
  (.seq
  (.reg [
    ⟨some 25, .move (.tmp 0), none⟩,
    ⟨some 26, .nilCheck (.tmp 25), none⟩,
    ⟨some 27, .fieldAddr 51 (.tmp 26) 1, none⟩,
    ⟨some 28, .load 3 (.tmp 27), none⟩,
    ⟨some 29, .binOp .add 3 (.tmp 28) (.const (.int .i64 1)) 3, none⟩,
    ⟨some 30, .nilCheck (.tmp 25), none⟩,
    ⟨some 31, .fieldAddr 51 (.tmp 30) 1, none⟩,
    ⟨none, .store 3 (.tmp 31) (.tmp 29), none⟩])
  (.seq
  (.reg [
    ⟨some 32, .move (.tmp 0), none⟩,
    ⟨some 33, .move (.tmp 0), none⟩,
    ⟨some 34, .nilCheck (.tmp 33), none⟩,
    ⟨some 35, .fieldAddr 51 (.tmp 34) 2, none⟩,
    ⟨some 36, .load 49 (.tmp 35), none⟩,
    ⟨some 37, .binOp .mul 49 (.tmp 36) (.const (.int .u64 6364136223846793005)) 49, none⟩,
    ⟨some 38, .move (.tmp 3), none⟩,
    ⟨some 39, .convert 3 49 (.tmp 38), none⟩,
    ⟨some 40, .binOp .add 49 (.tmp 37) (.tmp 39) 49, none⟩,
    ⟨some 41, .binOp .add 49 (.tmp 40) (.const (.int .u64 1442695040888963407)) 49, none⟩,
    ⟨some 42, .nilCheck (.tmp 32), none⟩,
    ⟨some 43, .fieldAddr 51 (.tmp 42) 2, none⟩,
    ⟨none, .store 49 (.tmp 43) (.tmp 41), none⟩])
  (.seq
  (.seq
  (.raw (.region 6 rg72_2 true))
  (.cond (.tmp 53)
    (.seq
    (.reg [
      ⟨some 54, .move (.tmp 3), none⟩,
      ⟨some 2, .assign (.tmp 54), none⟩])
    .ret)
    .skip))
  (.seq
  (.reg [
    ⟨some 55, .move (.tmp 0), none⟩,
    ⟨some 56, .nilCheck (.tmp 55), none⟩,
    ⟨some 57, .fieldAddr 51 (.tmp 56) 2, none⟩,
    ⟨some 58, .load 49 (.tmp 57), none⟩,
    ⟨some 59, .binOp .shr 49 (.tmp 58) (.const (.int .u64 40)) 95, none⟩,
    ⟨some 60, .binOp .and 49 (.tmp 59) (.const (.int .u64 255)) 49, none⟩,
    ⟨some 61, .convert 49 3 (.tmp 60), none⟩,
    ⟨some 2, .assign (.tmp 61), none⟩])
  .ret)))))))
theorem hd72 : Try.f72.body.map dec = some c72 := by kernel_rfl
theorem e72 {R : AV → AH → Prop} {h : AH} (x0 : AV) (H : h.wf → AI Try.prog c72 (RetQ Try.prog [.tmp 2] R) [x0, un, un, un, un, un, un, un, un, un, un, un, un, un, un, un, un, un, un, un, un, un, un, un, un, un, un, un, un, un, un, un, un, un, un, un, un, un, un, un, un, un, un, un, un, un, un, un, un, un, un, un, un, un, un, un, un, un, un, un, un, un] h) : AC Try.prog 72 [x0] h R :=
  AC_of' (rs := [.tmp 2]) Try.func72 (by kernel_rfl) hd72 Try.ntmps72 rfl H
theorem dz72_0 {h0 : AH} {L : List It} {Q : Exit → List AV → List It → Prop} {a : List AV} {id : Nat} (H : LX Try.prog ⟨[], []⟩ h0 L L (.c (⟨some 4, .move (.tmp 0), none⟩, .p) <| .c (⟨some 5, .nilCheck (.tmp 4), none⟩, .p) <| .c (⟨some 6, .fieldAddr 51 (.tmp 5) 1, none⟩, .p) <| .c (⟨some 7, .load 3 (.tmp 6), none⟩, .l) <| .c (⟨some 8, .move (.tmp 0), none⟩, .p) <| .c (⟨some 9, .nilCheck (.tmp 8), none⟩, .p) <| .c (⟨some 10, .fieldAddr 51 (.tmp 9) 0, none⟩, .p) <| .c (⟨some 11, .load 22 (.tmp 10), none⟩, .l) <| .c (⟨some 12, .call { callee := .builtin .len, args := #[.tmp 11], argTypes := #[22] }, none⟩, .p) <| .c (⟨some 13, .binOp .lss 3 (.tmp 7) (.tmp 12) 3, none⟩, .p) <| .n) Q a) : LI Try.prog h0 L (.raw (.region id rg72_0 true)) Q a :=
  LI_draw (.c (0, .p) <| .c (1, .p) <| .c (2, .p) <| .c (3, .l) <| .c (4, .p) <| .c (5, .p) <| .c (6, .p) <| .c (7, .l) <| .c (8, .p) <| .c (9, .p) <| .n) [] (by kernel_rfl) (by kernel_rfl) (by kernel_rfl) H
theorem dr72_0 (m : Nat) {Q : Exit → List AV → AH → Prop} {a : List AV} {h : AH} {id : Nat} (H : AX Try.prog m h [(⟨some 4, .move (.tmp 0), none⟩, true),
  (⟨some 5, .nilCheck (.tmp 4), none⟩, true),
  (⟨some 6, .fieldAddr 51 (.tmp 5) 1, none⟩, true),
  (⟨some 7, .load 3 (.tmp 6), none⟩, true),
  (⟨some 8, .move (.tmp 0), none⟩, true),
  (⟨some 9, .nilCheck (.tmp 8), none⟩, true),
  (⟨some 10, .fieldAddr 51 (.tmp 9) 0, none⟩, true),
  (⟨some 11, .load 22 (.tmp 10), none⟩, true),
  (⟨some 12, .call { callee := .builtin .len, args := #[.tmp 11], argTypes := #[22] }, none⟩, true),
  (⟨some 13, .binOp .lss 3 (.tmp 7) (.tmp 12) 3, none⟩, true)] (fun a' h' => Q .normal a' h') a h) : AI Try.prog (.raw (.region id rg72_0 true)) Q a h :=
  AI_draw [(0, true), (1, true), (2, true), (3, true), (4, true), (5, true), (6, true), (7, true), (8, true), (9, true)] m (by kernel_rfl) (by kernel_rfl) (by kernel_rfl) H
theorem dz72_1 {h0 : AH} {L : List It} {Q : Exit → List AV → List It → Prop} {a : List AV} {id : Nat} (H : LX Try.prog ⟨[], []⟩ h0 L L (.c (⟨some 14, .move (.tmp 0), none⟩, .p) <| .c (⟨some 15, .nilCheck (.tmp 14), none⟩, .p) <| .c (⟨some 16, .fieldAddr 51 (.tmp 15) 0, none⟩, .p) <| .c (⟨some 17, .load 22 (.tmp 16), none⟩, .l) <| .c (⟨some 18, .move (.tmp 0), none⟩, .p) <| .c (⟨some 19, .nilCheck (.tmp 18), none⟩, .p) <| .c (⟨some 20, .fieldAddr 51 (.tmp 19) 1, none⟩, .p) <| .c (⟨some 21, .load 3 (.tmp 20), none⟩, .l) <| .c (⟨some 22, .indexAddr 22 (.tmp 17) (.tmp 21), none⟩, .p) <| .c (⟨some 23, .load 5 (.tmp 22), none⟩, .l) <| .c (⟨some 24, .convert 5 3 (.tmp 23), none⟩, .p) <| .c (⟨some 3, .assign (.tmp 24), none⟩, .p) <| .n) Q a) : LI Try.prog h0 L (.raw (.region id rg72_1 true)) Q a :=
  LI_draw (.c (0, .p) <| .c (1, .p) <| .c (2, .p) <| .c (3, .l) <| .c (4, .p) <| .c (5, .p) <| .c (6, .p) <| .c (7, .l) <| .c (8, .p) <| .c (9, .l) <| .c (10, .p) <| .c (11, .p) <| .n) [] (by kernel_rfl) (by kernel_rfl) (by kernel_rfl) H
theorem dr72_1 (m : Nat) {Q : Exit → List AV → AH → Prop} {a : List AV} {h : AH} {id : Nat} (H : AX Try.prog m h [(⟨some 14, .move (.tmp 0), none⟩, true),
  (⟨some 15, .nilCheck (.tmp 14), none⟩, true),
  (⟨some 16, .fieldAddr 51 (.tmp 15) 0, none⟩, true),
  (⟨some 17, .load 22 (.tmp 16), none⟩, true),
  (⟨some 18, .move (.tmp 0), none⟩, true),
  (⟨some 19, .nilCheck (.tmp 18), none⟩, true),
  (⟨some 20, .fieldAddr 51 (.tmp 19) 1, none⟩, true),
  (⟨some 21, .load 3 (.tmp 20), none⟩, true),
  (⟨some 22, .indexAddr 22 (.tmp 17) (.tmp 21), none⟩, true),
  (⟨some 23, .load 5 (.tmp 22), none⟩, true),
  (⟨some 24, .convert 5 3 (.tmp 23), none⟩, true),
  (⟨some 3, .assign (.tmp 24), none⟩, true)] (fun a' h' => Q .normal a' h') a h) : AI Try.prog (.raw (.region id rg72_1 true)) Q a h :=
  AI_draw [(0, true), (1, true), (2, true), (3, true), (4, true), (5, true), (6, true), (7, true), (8, true), (9, true), (10, true), (11, true)] m (by kernel_rfl) (by kernel_rfl) (by kernel_rfl) H
theorem dz72_2 {h0 : AH} {L : List It} {Q : Exit → List AV → List It → Prop} {a : List AV} {id : Nat} (H : LX Try.prog ⟨[], []⟩ h0 L L (.c (⟨some 44, .move (.tmp 0), none⟩, .p) <| .c (⟨some 45, .nilCheck (.tmp 44), none⟩, .p) <| .c (⟨some 46, .fieldAddr 51 (.tmp 45) 1, none⟩, .p) <| .c (⟨some 47, .load 3 (.tmp 46), none⟩, .l) <| .c (⟨some 48, .move (.tmp 0), none⟩, .p) <| .c (⟨some 49, .nilCheck (.tmp 48), none⟩, .p) <| .c (⟨some 50, .fieldAddr 51 (.tmp 49) 0, none⟩, .p) <| .c (⟨some 51, .load 22 (.tmp 50), none⟩, .l) <| .c (⟨some 52, .call { callee := .builtin .len, args := #[.tmp 51], argTypes := #[22] }, none⟩, .p) <| .c (⟨some 53, .binOp .leq 3 (.tmp 47) (.tmp 52) 3, none⟩, .p) <| .n) Q a) : LI Try.prog h0 L (.raw (.region id rg72_2 true)) Q a :=
  LI_draw (.c (0, .p) <| .c (1, .p) <| .c (2, .p) <| .c (3, .l) <| .c (4, .p) <| .c (5, .p) <| .c (6, .p) <| .c (7, .l) <| .c (8, .p) <| .c (9, .p) <| .n) [] (by kernel_rfl) (by kernel_rfl) (by kernel_rfl) H
theorem dr72_2 (m : Nat) {Q : Exit → List AV → AH → Prop} {a : List AV} {h : AH} {id : Nat} (H : AX Try.prog m h [(⟨some 44, .move (.tmp 0), none⟩, true),
  (⟨some 45, .nilCheck (.tmp 44), none⟩, true),
  (⟨some 46, .fieldAddr 51 (.tmp 45) 1, none⟩, true),
  (⟨some 47, .load 3 (.tmp 46), none⟩, true),
  (⟨some 48, .move (.tmp 0), none⟩, true),
  (⟨some 49, .nilCheck (.tmp 48), none⟩, true),
  (⟨some 50, .fieldAddr 51 (.tmp 49) 0, none⟩, true),
  (⟨some 51, .load 22 (.tmp 50), none⟩, true),
  (⟨some 52, .call { callee := .builtin .len, args := #[.tmp 51], argTypes := #[22] }, none⟩, true),
  (⟨some 53, .binOp .leq 3 (.tmp 47) (.tmp 52) 3, none⟩, true)] (fun a' h' => Q .normal a' h') a h) : AI Try.prog (.raw (.region id rg72_2 true)) Q a h :=
  AI_draw [(0, true), (1, true), (2, true), (3, true), (4, true), (5, true), (6, true), (7, true), (8, true), (9, true)] m (by kernel_rfl) (by kernel_rfl) (by kernel_rfl) H

/-- (*spec.l1Cur).pick -/
def c53 : IC :=
  (.seq
  (.reg [
    ⟨some 4, .assign (.const (.int .i64 0)), none⟩])
  (.seq
  (.seq
  (.reg [
    ⟨some 6, .move (.tmp 1), none⟩,
    ⟨some 7, .binOp .leq 3 (.tmp 6) (.const (.int .i64 1)) 3, none⟩])
  (.cond (.tmp 7)
    (.seq
    (.reg [
      ⟨some 4, .assign (.const (.int .i64 0)), none⟩])
    .ret)
    .skip))
  (.seq
  (.reg [
    ⟨some 8, .move (.tmp 0), none⟩,
    ⟨some 9, .call { callee := .value (.func 72), args := #[.tmp 8], argTypes := #[48] }, none⟩,
    ⟨some 5, .assign (.tmp 9), none⟩])
  (.seq
  (.seq
  (.reg [
    ⟨some 10, .move (.tmp 1), none⟩,
    ⟨some 11, .binOp .gtr 3 (.tmp 10) (.const (.int .i64 200)) 3, none⟩])
  (.cond (.tmp 11)
    (.reg [
      ⟨some 12, .move (.tmp 5), none⟩,
      ⟨some 13, .binOp .mul 3 (.tmp 12) (.const (.int .i64 256)) 3, none⟩,
      ⟨some 14, .move (.tmp 0), none⟩,
      ⟨some 15, .call { callee := .value (.func 72), args := #[.tmp 14], argTypes := #[48] }, none⟩,
      ⟨some 16, .binOp .add 3 (.tmp 13) (.tmp 15) 3, none⟩,
      ⟨some 5, .assign (.tmp 16), none⟩])
    .skip))
  (.seq
  (.reg [
    ⟨some 17, .move (.tmp 5), none⟩,
    ⟨some 18, .move (.tmp 1), none⟩,
    ⟨some 19, .binOp .rem 3 (.tmp 17) (.tmp 18) 3, none⟩,
    ⟨some 4, .assign (.tmp 19), none⟩])
  .ret)))))
theorem hd53 : Try.f53.body.map dec = some c53 := by kernel_rfl
theorem e53 {R : AV → AH → Prop} {h : AH} (x0 x1 : AV) (H : h.wf → AI Try.prog c53 (RetQ Try.prog [.tmp 4] R) [x0, x1, un, un, un, un, un, un, un, un, un, un, un, un, un, un, un, un, un, un] h) : AC Try.prog 53 [x0, x1] h R :=
  AC_of' (rs := [.tmp 4]) Try.func53 (by kernel_rfl) hd53 Try.ntmps53 rfl H

/-- (*spec.l1Cur).among -/
def c19 : IC :=
  (.seq
  (.reg [
    ⟨some 4, .assign (.const (.int .i64 0)), none⟩])
  (.seq
  (.reg [
    ⟨some 5, .move (.tmp 1), none⟩,
    ⟨some 6, .move (.tmp 0), none⟩,
    ⟨some 7, .move (.tmp 1), none⟩,
    ⟨some 8, .call { callee := .builtin .len, args := #[.tmp 7], argTypes := #[25] }, none⟩,
    ⟨some 9, .call { callee := .value (.func 53), args := #[.tmp 6, .tmp 8], argTypes := #[48, 3] }, none⟩,
    ⟨some 10, .indexAddr 25 (.tmp 5) (.tmp 9), none⟩,
    ⟨some 11, .load 3 (.tmp 10), none⟩,
    ⟨some 4, .assign (.tmp 11), none⟩])
  .ret))
theorem hd19 : Try.f19.body.map dec = some c19 := by kernel_rfl
theorem e19 {R : AV → AH → Prop} {h : AH} (x0 x1 : AV) (H : h.wf → AI Try.prog c19 (RetQ Try.prog [.tmp 4] R) [x0, x1, un, un, un, un, un, un, un, un, un, un] h) : AC Try.prog 19 [x0, x1] h R :=
  AC_of' (rs := [.tmp 4]) Try.func19 (by kernel_rfl) hd19 Try.ntmps19 rfl H

/-- spec.l1Least -/
def c22 : IC :=
  (.seq
  (.reg [
    ⟨some 4, .assign (.const (.int .i64 0)), none⟩])
  (.seq
  (.seq
  (.reg [
    ⟨some 5, .move (.tmp 0), none⟩,
    ⟨some 6, .move (.tmp 1), none⟩,
    ⟨some 7, .binOp .lss 3 (.tmp 5) (.tmp 6) 3, none⟩])
  (.cond (.tmp 7)
    (.seq
    (.reg [
      ⟨some 8, .move (.tmp 0), none⟩,
      ⟨some 4, .assign (.tmp 8), none⟩])
    .ret)
    .skip))
  (.seq
  (.reg [
    ⟨some 9, .move (.tmp 1), none⟩,
    ⟨some 4, .assign (.tmp 9), none⟩])
  .ret)))
theorem hd22 : Try.f22.body.map dec = some c22 := by kernel_rfl
theorem e22 {R : AV → AH → Prop} {h : AH} (x0 x1 : AV) (H : h.wf → AI Try.prog c22 (RetQ Try.prog [.tmp 4] R) [x0, x1, un, un, un, un, un, un, un, un] h) : AC Try.prog 22 [x0, x1] h R :=
  AC_of' (rs := [.tmp 4]) Try.func22 (by kernel_rfl) hd22 Try.ntmps22 rfl H

/-- (*spec.l1Cur).one -/
def c54 : IC :=
  (.seq
  (.reg [
    ⟨some 4, .assign (.const (.bool false)), none⟩])
  (.seq
  (.reg [
    ⟨some 5, .move (.tmp 0), none⟩,
    ⟨some 6, .move (.tmp 1), none⟩,
    ⟨some 7, .call { callee := .value (.func 53), args := #[.tmp 5, .tmp 6], argTypes := #[48, 3] }, none⟩,
    ⟨some 8, .binOp .eql 3 (.tmp 7) (.const (.int .i64 0)) 3, none⟩,
    ⟨some 4, .assign (.tmp 8), none⟩])
  .ret))
theorem hd54 : Try.f54.body.map dec = some c54 := by kernel_rfl
theorem e54 {R : AV → AH → Prop} {h : AH} (x0 x1 : AV) (H : h.wf → AI Try.prog c54 (RetQ Try.prog [.tmp 4] R) [x0, x1, un, un, un, un, un, un, un] h) : AC Try.prog 54 [x0, x1] h R :=
  AC_of' (rs := [.tmp 4]) Try.func54 (by kernel_rfl) hd54 Try.ntmps54 rfl H

/-- spec.l1Most -/
def c21 : IC :=
  (.seq
  (.reg [
    ⟨some 4, .assign (.const (.int .i64 0)), none⟩])
  (.seq
  (.seq
  (.reg [
    ⟨some 5, .move (.tmp 0), none⟩,
    ⟨some 6, .move (.tmp 1), none⟩,
    ⟨some 7, .binOp .gtr 3 (.tmp 5) (.tmp 6) 3, none⟩])
  (.cond (.tmp 7)
    (.seq
    (.reg [
      ⟨some 8, .move (.tmp 0), none⟩,
      ⟨some 4, .assign (.tmp 8), none⟩])
    .ret)
    .skip))
  (.seq
  (.reg [
    ⟨some 9, .move (.tmp 1), none⟩,
    ⟨some 4, .assign (.tmp 9), none⟩])
  .ret)))
theorem hd21 : Try.f21.body.map dec = some c21 := by kernel_rfl
theorem e21 {R : AV → AH → Prop} {h : AH} (x0 x1 : AV) (H : h.wf → AI Try.prog c21 (RetQ Try.prog [.tmp 4] R) [x0, x1, un, un, un, un, un, un, un, un] h) : AC Try.prog 21 [x0, x1] h R :=
  AC_of' (rs := [.tmp 4]) Try.func21 (by kernel_rfl) hd21 Try.ntmps21 rfl H

/-- spec.plStep -/
def c71 : IC :=
  (.seq
  (.reg [
    ⟨some 4, .alloc 70, none⟩])
  (.seq
  (.reg [
    ⟨some 5, .move (.tmp 0), none⟩,
    ⟨some 6, .move (.tmp 1), none⟩,
    ⟨some 7, .call { callee := .value (.func 22), args := #[.tmp 5, .tmp 6], argTypes := #[3, 3] }, none⟩,
    ⟨some 8, .move (.tmp 0), none⟩,
    ⟨some 9, .move (.tmp 1), none⟩,
    ⟨some 10, .call { callee := .value (.func 21), args := #[.tmp 8, .tmp 9], argTypes := #[3, 3] }, none⟩,
    ⟨some 11, .build 70 #[(0, .tmp 7), (1, .tmp 10)], none⟩,
    ⟨none, .store 70 (.tmp 4) (.tmp 11), none⟩])
  .ret))
theorem hd71 : Try.f71.body.map dec = some c71 := by kernel_rfl
theorem e71 {R : AV → AH → Prop} {h : AH} (x0 x1 : AV) (H : h.wf → AI Try.prog c71 (RetQ Try.prog [.cell 4 70] R) [x0, x1, un, un, un, un, un, un, un, un, un, un] h) : AC Try.prog 71 [x0, x1] h R :=
  AC_of' (rs := [.cell 4 70]) Try.func71 (by kernel_rfl) hd71 Try.ntmps71 rfl H

noncomputable def rg52_0 : Array Oper := rawAt Try.f52 0
noncomputable def rg52_1 : Array Oper := rawAt Try.f52 1
/-- (*spec.l1Cur).plan -/
noncomputable def c52 : IC :=
  (.seq
  (.reg [
    ⟨some 6, .alloc 27, none⟩])
  (.seq
  (.reg [
    ⟨some 13, .move (.tmp 0), none⟩,
    ⟨some 14, .move (.tmp 1), none⟩,
    ⟨some 15, .call { callee := .value (.func 53), args := #[.tmp 13, .tmp 14], argTypes := #[48, 3] }, none⟩,
    ⟨some 16, .binOp .add 3 (.const (.int .i64 1)) (.tmp 15) 3, none⟩,
    ⟨some 17, .build 27 #[(0, .tmp 16)], none⟩,
    ⟨some 7, .alloc 27, none⟩,
    ⟨none, .store 27 (.tmp 7) (.tmp 17), none⟩])
  (.seq
  (.seq
  (.reg [
    ⟨some 18, .move (.tmp 0), none⟩,
    ⟨some 19, .move (.tmp 2), none⟩,
    ⟨some 20, .binOp .add 3 (.tmp 19) (.const (.int .i64 1)) 3, none⟩,
    ⟨some 21, .call { callee := .value (.func 53), args := #[.tmp 18, .tmp 20], argTypes := #[48, 3] }, none⟩,
    ⟨some 8, .assign (.tmp 21), none⟩])
  (.block 0
  (.loop
    (.seq
    (.seq
    (.reg [
      ⟨some 22, .move (.tmp 8), none⟩,
      ⟨some 23, .binOp .gtr 3 (.tmp 22) (.const (.int .i64 0)) 3, none⟩])
    (.cond (.tmp 23)
      .skip
      (.exit 0)))
    (.seq
    (.block 1
    (.seq
    (.reg [
      ⟨some 26, .fieldAddr 27 (.tmp 7) 0, none⟩,
      ⟨some 27, .load 3 (.tmp 26), none⟩,
      ⟨some 28, .fieldAddr 27 (.tmp 7) 1, none⟩,
      ⟨some 29, .load 24 (.tmp 28), none⟩,
      ⟨some 30, .call { callee := .builtin .len, args := #[.tmp 29], argTypes := #[24] }, none⟩,
      ⟨some 31, .binOp .add 3 (.tmp 27) (.tmp 30) 3, none⟩,
      ⟨some 9, .assign (.tmp 31), none⟩])
    (.seq
    (.reg [
      ⟨some 32, .move (.tmp 0), none⟩,
      ⟨some 33, .move (.tmp 9), none⟩,
      ⟨some 34, .call { callee := .value (.func 53), args := #[.tmp 32, .tmp 33], argTypes := #[48, 3] }, none⟩,
      ⟨some 10, .assign (.tmp 34), none⟩])
    (.seq
    (.seq
    (.reg [
      ⟨some 35, .move (.tmp 0), none⟩,
      ⟨some 36, .call { callee := .value (.func 54), args := #[.tmp 35, .const (.int .i64 2)], argTypes := #[48, 3] }, none⟩])
    (.cond (.tmp 36)
      (.reg [
        ⟨some 37, .move (.tmp 9), none⟩,
        ⟨some 38, .binOp .sub 3 (.tmp 37) (.const (.int .i64 1)) 3, none⟩,
        ⟨some 10, .assign (.tmp 38), none⟩])
      .skip))
    (.raw (.region 9 rg52_0 true))))))
    (.reg [
      ⟨some 24, .move (.tmp 8), none⟩,
      ⟨some 25, .binOp .sub 3 (.tmp 24) (.const (.int .i64 1)) 3, none⟩,
      ⟨some 8, .assign (.tmp 25), none⟩]))))))
  (.seq
  (.reg [
    ⟨some 49, .fieldAddr 27 (.tmp 7) 0, none⟩,
    ⟨some 50, .load 3 (.tmp 49), none⟩,
    ⟨some 51, .fieldAddr 27 (.tmp 7) 1, none⟩,
    ⟨some 52, .load 24 (.tmp 51), none⟩,
    ⟨some 53, .call { callee := .builtin .len, args := #[.tmp 52], argTypes := #[24] }, none⟩,
    ⟨some 54, .binOp .add 3 (.tmp 50) (.tmp 53) 3, none⟩,
    ⟨some 11, .assign (.tmp 54), none⟩])
  (.seq
  (.seq
  (.reg [
    ⟨some 55, .move (.tmp 0), none⟩,
    ⟨some 56, .call { callee := .value (.func 53), args := #[.tmp 55, .const (.int .i64 3)], argTypes := #[48, 3] }, none⟩,
    ⟨some 57, .binOp .add 3 (.const (.int .i64 1)) (.tmp 56) 3, none⟩,
    ⟨some 12, .assign (.tmp 57), none⟩])
  (.block 2
  (.loop
    (.seq
    (.seq
    (.reg [
      ⟨some 58, .move (.tmp 12), none⟩,
      ⟨some 59, .binOp .gtr 3 (.tmp 58) (.const (.int .i64 0)) 3, none⟩])
    (.cond (.tmp 59)
      .skip
      (.exit 2)))
    (.seq
    (.block 3
    (.raw (.region 14 rg52_1 true)))
    (.reg [
      ⟨some 60, .move (.tmp 12), none⟩,
      ⟨some 61, .binOp .sub 3 (.tmp 60) (.const (.int .i64 1)) 3, none⟩,
      ⟨some 12, .assign (.tmp 61), none⟩]))))))
  (.seq
  (.seq
  (.reg [
    ⟨some 74, .move (.tmp 0), none⟩,
    ⟨some 75, .call { callee := .value (.func 54), args := #[.tmp 74, .const (.int .i64 12)], argTypes := #[48, 3] }, none⟩])
  (.cond (.tmp 75)
    (.reg [
      ⟨some 76, .fieldAddr 27 (.tmp 7) 2, none⟩,
      ⟨none, .store 25 (.tmp 76) (.const (.slice none 0 0)), none⟩])
    .skip))
  (.seq
  (.reg [
    ⟨some 77, .load 27 (.tmp 7), none⟩,
    ⟨none, .store 27 (.tmp 6) (.tmp 77), none⟩])
  .ret)))))))
theorem hd52 : Try.f52.body.map dec = some c52 := by kernel_rfl
theorem e52 {R : AV → AH → Prop} {h : AH} (x0 x1 x2 : AV) (H : h.wf → AI Try.prog c52 (RetQ Try.prog [.cell 6 27] R) [x0, x1, x2, un, un, un, un, un, un, un, un, un, un, un, un, un, un, un, un, un, un, un, un, un, un, un, un, un, un, un, un, un, un, un, un, un, un, un, un, un, un, un, un, un, un, un, un, un, un, un, un, un, un, un, un, un, un, un, un, un, un, un, un, un, un, un, un, un, un, un, un, un, un, un, un, un, un, un] h) : AC Try.prog 52 [x0, x1, x2] h R :=
  AC_of' (rs := [.cell 6 27]) Try.func52 (by kernel_rfl) hd52 Try.ntmps52 rfl H
theorem dz52_0 {h0 : AH} {L : List It} {Q : Exit → List AV → List It → Prop} {a : List AV} {id : Nat} (H : LX Try.prog ⟨[8, 10], []⟩ h0 L L (.c (⟨some 39, .fieldAddr 27 (.tmp 7) 1, none⟩, .p) <| .c (⟨some 40, .load 24 (.tmp 39), none⟩, .l) <| .c (⟨some 41, .move (.tmp 10), none⟩, .p) <| .c (⟨some 42, .move (.tmp 0), none⟩, .p) <| .c (⟨some 43, .move (.tmp 9), none⟩, .p) <| .c (⟨some 44, .call { callee := .value (.func 53), args := #[.tmp 42, .tmp 43], argTypes := #[48, 3] }, none⟩, .e) <| .c (⟨some 45, .call { callee := .value (.func 71), args := #[.tmp 41, .tmp 44], argTypes := #[3, 3] }, none⟩, .e) <| .c (⟨some 46, .buildSlice 24 1 #[(0, .tmp 45)], none⟩, .e) <| .c (⟨some 47, .call { callee := .builtin .append, args := #[.tmp 40, .tmp 46], argTypes := #[24, 24] }, none⟩, .f) <| .c (⟨some 48, .fieldAddr 27 (.tmp 7) 1, none⟩, .p) <| .c (⟨none, .store 24 (.tmp 48) (.tmp 47), none⟩, .f) <| .n) Q a) : LI Try.prog h0 L (.raw (.region id rg52_0 true)) Q a :=
  LI_draw (.c (0, .p) <| .c (1, .l) <| .c (2, .p) <| .c (3, .p) <| .c (4, .p) <| .c (5, .e) <| .c (6, .e) <| .c (7, .e) <| .c (8, .f) <| .c (9, .p) <| .c (10, .f) <| .n) [8, 10] (by kernel_rfl) (by kernel_rfl) (by kernel_rfl) H
theorem db52_0 {h0 : AH} {L : List It} {Q : Exit → List AV → List It → Prop} {a : List AV} {id : Nat} (K : List (Nat × List AV)) (hK : ∀ x ∈ K, It.pt x.1 x.2 ∈ L) (H : LX Try.prog ⟨[5, 6, 7, 8, 10], K⟩ h0 L L (.c (⟨some 39, .fieldAddr 27 (.tmp 7) 1, none⟩, .p) <| .c (⟨some 41, .move (.tmp 10), none⟩, .p) <| .c (⟨some 42, .move (.tmp 0), none⟩, .p) <| .c (⟨some 43, .move (.tmp 9), none⟩, .p) <| .t (.c (⟨some 40, .load 24 (.tmp 39), none⟩, .e) <| .c (⟨some 44, .call { callee := .value (.func 53), args := #[.tmp 42, .tmp 43], argTypes := #[48, 3] }, none⟩, .f) <| .c (⟨some 45, .call { callee := .value (.func 71), args := #[.tmp 41, .tmp 44], argTypes := #[3, 3] }, none⟩, .f) <| .c (⟨some 46, .buildSlice 24 1 #[(0, .tmp 45)], none⟩, .f) <| .c (⟨some 47, .call { callee := .builtin .append, args := #[.tmp 40, .tmp 46], argTypes := #[24, 24] }, none⟩, .f) <| .c (⟨some 48, .fieldAddr 27 (.tmp 7) 1, none⟩, .p) <| .c (⟨none, .store 24 (.tmp 48) (.tmp 47), none⟩, .f) <| .n) (.c (⟨some 44, .call { callee := .value (.func 53), args := #[.tmp 42, .tmp 43], argTypes := #[48, 3] }, none⟩, .f) <| .t (.c (⟨some 40, .load 24 (.tmp 39), none⟩, .e) <| .c (⟨some 45, .call { callee := .value (.func 71), args := #[.tmp 41, .tmp 44], argTypes := #[3, 3] }, none⟩, .f) <| .c (⟨some 46, .buildSlice 24 1 #[(0, .tmp 45)], none⟩, .f) <| .c (⟨some 47, .call { callee := .builtin .append, args := #[.tmp 40, .tmp 46], argTypes := #[24, 24] }, none⟩, .f) <| .c (⟨some 48, .fieldAddr 27 (.tmp 7) 1, none⟩, .p) <| .c (⟨none, .store 24 (.tmp 48) (.tmp 47), none⟩, .f) <| .n) (.c (⟨some 45, .call { callee := .value (.func 71), args := #[.tmp 41, .tmp 44], argTypes := #[3, 3] }, none⟩, .f) <| .t (.c (⟨some 40, .load 24 (.tmp 39), none⟩, .e) <| .c (⟨some 46, .buildSlice 24 1 #[(0, .tmp 45)], none⟩, .f) <| .c (⟨some 47, .call { callee := .builtin .append, args := #[.tmp 40, .tmp 46], argTypes := #[24, 24] }, none⟩, .f) <| .c (⟨some 48, .fieldAddr 27 (.tmp 7) 1, none⟩, .p) <| .c (⟨none, .store 24 (.tmp 48) (.tmp 47), none⟩, .f) <| .n) (.c (⟨some 46, .buildSlice 24 1 #[(0, .tmp 45)], none⟩, .f) <| .c (⟨some 40, .load 24 (.tmp 39), none⟩, .e) <| .c (⟨some 47, .call { callee := .builtin .append, args := #[.tmp 40, .tmp 46], argTypes := #[24, 24] }, none⟩, .f) <| .c (⟨some 48, .fieldAddr 27 (.tmp 7) 1, none⟩, .p) <| .c (⟨none, .store 24 (.tmp 48) (.tmp 47), none⟩, .f) <| .n)))) Q a) : LI Try.prog h0 L (.raw (.region id rg52_0 true)) Q a :=
  LI_drawK (.c (0, .p) <| .c (2, .p) <| .c (3, .p) <| .c (4, .p) <| .t (.c (1, .e) <| .c (5, .f) <| .c (6, .f) <| .c (7, .f) <| .c (8, .f) <| .c (9, .p) <| .c (10, .f) <| .n) (.c (5, .f) <| .t (.c (1, .e) <| .c (6, .f) <| .c (7, .f) <| .c (8, .f) <| .c (9, .p) <| .c (10, .f) <| .n) (.c (6, .f) <| .t (.c (1, .e) <| .c (7, .f) <| .c (8, .f) <| .c (9, .p) <| .c (10, .f) <| .n) (.c (7, .f) <| .c (1, .e) <| .c (8, .f) <| .c (9, .p) <| .c (10, .f) <| .n)))) [5, 6, 7, 8, 10] K hK (by kernel_rfl) (by kernel_rfl) (by kernel_rfl) H
theorem dr52_0 (m : Nat) {Q : Exit → List AV → AH → Prop} {a : List AV} {h : AH} {id : Nat} (H : AX Try.prog m h [(⟨some 39, .fieldAddr 27 (.tmp 7) 1, none⟩, true),
  (⟨some 40, .load 24 (.tmp 39), none⟩, true),
  (⟨some 41, .move (.tmp 10), none⟩, true),
  (⟨some 42, .move (.tmp 0), none⟩, true),
  (⟨some 43, .move (.tmp 9), none⟩, true),
  (⟨some 44, .call { callee := .value (.func 53), args := #[.tmp 42, .tmp 43], argTypes := #[48, 3] }, none⟩, false),
  (⟨some 45, .call { callee := .value (.func 71), args := #[.tmp 41, .tmp 44], argTypes := #[3, 3] }, none⟩, false),
  (⟨some 46, .buildSlice 24 1 #[(0, .tmp 45)], none⟩, false),
  (⟨some 47, .call { callee := .builtin .append, args := #[.tmp 40, .tmp 46], argTypes := #[24, 24] }, none⟩, false),
  (⟨some 48, .fieldAddr 27 (.tmp 7) 1, none⟩, true),
  (⟨none, .store 24 (.tmp 48) (.tmp 47), none⟩, false)] (fun a' h' => Q .normal a' h') a h) : AI Try.prog (.raw (.region id rg52_0 true)) Q a h :=
  AI_draw [(0, true), (1, true), (2, true), (3, true), (4, true), (5, false), (6, false), (7, false), (8, false), (9, true), (10, false)] m (by kernel_rfl) (by kernel_rfl) (by kernel_rfl) H
theorem dz52_1 {h0 : AH} {L : List It} {Q : Exit → List AV → List It → Prop} {a : List AV} {id : Nat} (H : LX Try.prog ⟨[10, 12], []⟩ h0 L L (.c (⟨some 62, .fieldAddr 27 (.tmp 7) 2, none⟩, .p) <| .c (⟨some 63, .load 25 (.tmp 62), none⟩, .l) <| .c (⟨some 64, .move (.tmp 11), none⟩, .p) <| .c (⟨some 65, .binOp .sub 3 (.tmp 64) (.const (.int .i64 1)) 3, none⟩, .p) <| .c (⟨some 66, .move (.tmp 0), none⟩, .p) <| .c (⟨some 67, .move (.tmp 11), none⟩, .p) <| .c (⟨some 68, .call { callee := .value (.func 22), args := #[.tmp 67, .const (.int .i64 4)], argTypes := #[3, 3] }, none⟩, .e) <| .c (⟨some 69, .call { callee := .value (.func 53), args := #[.tmp 66, .tmp 68], argTypes := #[48, 3] }, none⟩, .e) <| .c (⟨some 70, .binOp .sub 3 (.tmp 65) (.tmp 69) 3, none⟩, .p) <| .c (⟨some 71, .buildSlice 25 1 #[(0, .tmp 70)], none⟩, .e) <| .c (⟨some 72, .call { callee := .builtin .append, args := #[.tmp 63, .tmp 71], argTypes := #[25, 25] }, none⟩, .f) <| .c (⟨some 73, .fieldAddr 27 (.tmp 7) 2, none⟩, .p) <| .c (⟨none, .store 25 (.tmp 73) (.tmp 72), none⟩, .f) <| .n) Q a) : LI Try.prog h0 L (.raw (.region id rg52_1 true)) Q a :=
  LI_draw (.c (0, .p) <| .c (1, .l) <| .c (2, .p) <| .c (3, .p) <| .c (4, .p) <| .c (5, .p) <| .c (6, .e) <| .c (7, .e) <| .c (8, .p) <| .c (9, .e) <| .c (10, .f) <| .c (11, .p) <| .c (12, .f) <| .n) [10, 12] (by kernel_rfl) (by kernel_rfl) (by kernel_rfl) H
theorem db52_1 {h0 : AH} {L : List It} {Q : Exit → List AV → List It → Prop} {a : List AV} {id : Nat} (K : List (Nat × List AV)) (hK : ∀ x ∈ K, It.pt x.1 x.2 ∈ L) (H : LX Try.prog ⟨[6, 7, 9, 10, 12], K⟩ h0 L L (.c (⟨some 62, .fieldAddr 27 (.tmp 7) 2, none⟩, .p) <| .c (⟨some 64, .move (.tmp 11), none⟩, .p) <| .c (⟨some 65, .binOp .sub 3 (.tmp 64) (.const (.int .i64 1)) 3, none⟩, .p) <| .c (⟨some 66, .move (.tmp 0), none⟩, .p) <| .c (⟨some 67, .move (.tmp 11), none⟩, .p) <| .t (.c (⟨some 63, .load 25 (.tmp 62), none⟩, .e) <| .c (⟨some 68, .call { callee := .value (.func 22), args := #[.tmp 67, .const (.int .i64 4)], argTypes := #[3, 3] }, none⟩, .f) <| .c (⟨some 69, .call { callee := .value (.func 53), args := #[.tmp 66, .tmp 68], argTypes := #[48, 3] }, none⟩, .f) <| .c (⟨some 70, .binOp .sub 3 (.tmp 65) (.tmp 69) 3, none⟩, .p) <| .c (⟨some 71, .buildSlice 25 1 #[(0, .tmp 70)], none⟩, .f) <| .c (⟨some 72, .call { callee := .builtin .append, args := #[.tmp 63, .tmp 71], argTypes := #[25, 25] }, none⟩, .f) <| .c (⟨some 73, .fieldAddr 27 (.tmp 7) 2, none⟩, .p) <| .c (⟨none, .store 25 (.tmp 73) (.tmp 72), none⟩, .f) <| .n) (.c (⟨some 68, .call { callee := .value (.func 22), args := #[.tmp 67, .const (.int .i64 4)], argTypes := #[3, 3] }, none⟩, .f) <| .t (.c (⟨some 63, .load 25 (.tmp 62), none⟩, .e) <| .c (⟨some 69, .call { callee := .value (.func 53), args := #[.tmp 66, .tmp 68], argTypes := #[48, 3] }, none⟩, .f) <| .c (⟨some 70, .binOp .sub 3 (.tmp 65) (.tmp 69) 3, none⟩, .p) <| .c (⟨some 71, .buildSlice 25 1 #[(0, .tmp 70)], none⟩, .f) <| .c (⟨some 72, .call { callee := .builtin .append, args := #[.tmp 63, .tmp 71], argTypes := #[25, 25] }, none⟩, .f) <| .c (⟨some 73, .fieldAddr 27 (.tmp 7) 2, none⟩, .p) <| .c (⟨none, .store 25 (.tmp 73) (.tmp 72), none⟩, .f) <| .n) (.c (⟨some 69, .call { callee := .value (.func 53), args := #[.tmp 66, .tmp 68], argTypes := #[48, 3] }, none⟩, .f) <| .c (⟨some 70, .binOp .sub 3 (.tmp 65) (.tmp 69) 3, none⟩, .p) <| .t (.c (⟨some 63, .load 25 (.tmp 62), none⟩, .e) <| .c (⟨some 71, .buildSlice 25 1 #[(0, .tmp 70)], none⟩, .f) <| .c (⟨some 72, .call { callee := .builtin .append, args := #[.tmp 63, .tmp 71], argTypes := #[25, 25] }, none⟩, .f) <| .c (⟨some 73, .fieldAddr 27 (.tmp 7) 2, none⟩, .p) <| .c (⟨none, .store 25 (.tmp 73) (.tmp 72), none⟩, .f) <| .n) (.c (⟨some 71, .buildSlice 25 1 #[(0, .tmp 70)], none⟩, .f) <| .c (⟨some 63, .load 25 (.tmp 62), none⟩, .e) <| .c (⟨some 72, .call { callee := .builtin .append, args := #[.tmp 63, .tmp 71], argTypes := #[25, 25] }, none⟩, .f) <| .c (⟨some 73, .fieldAddr 27 (.tmp 7) 2, none⟩, .p) <| .c (⟨none, .store 25 (.tmp 73) (.tmp 72), none⟩, .f) <| .n)))) Q a) : LI Try.prog h0 L (.raw (.region id rg52_1 true)) Q a :=
  LI_drawK (.c (0, .p) <| .c (2, .p) <| .c (3, .p) <| .c (4, .p) <| .c (5, .p) <| .t (.c (1, .e) <| .c (6, .f) <| .c (7, .f) <| .c (8, .p) <| .c (9, .f) <| .c (10, .f) <| .c (11, .p) <| .c (12, .f) <| .n) (.c (6, .f) <| .t (.c (1, .e) <| .c (7, .f) <| .c (8, .p) <| .c (9, .f) <| .c (10, .f) <| .c (11, .p) <| .c (12, .f) <| .n) (.c (7, .f) <| .c (8, .p) <| .t (.c (1, .e) <| .c (9, .f) <| .c (10, .f) <| .c (11, .p) <| .c (12, .f) <| .n) (.c (9, .f) <| .c (1, .e) <| .c (10, .f) <| .c (11, .p) <| .c (12, .f) <| .n)))) [6, 7, 9, 10, 12] K hK (by kernel_rfl) (by kernel_rfl) (by kernel_rfl) H
theorem dr52_1 (m : Nat) {Q : Exit → List AV → AH → Prop} {a : List AV} {h : AH} {id : Nat} (H : AX Try.prog m h [(⟨some 62, .fieldAddr 27 (.tmp 7) 2, none⟩, true),
  (⟨some 63, .load 25 (.tmp 62), none⟩, true),
  (⟨some 64, .move (.tmp 11), none⟩, true),
  (⟨some 65, .binOp .sub 3 (.tmp 64) (.const (.int .i64 1)) 3, none⟩, true),
  (⟨some 66, .move (.tmp 0), none⟩, true),
  (⟨some 67, .move (.tmp 11), none⟩, true),
  (⟨some 68, .call { callee := .value (.func 22), args := #[.tmp 67, .const (.int .i64 4)], argTypes := #[3, 3] }, none⟩, false),
  (⟨some 69, .call { callee := .value (.func 53), args := #[.tmp 66, .tmp 68], argTypes := #[48, 3] }, none⟩, false),
  (⟨some 70, .binOp .sub 3 (.tmp 65) (.tmp 69) 3, none⟩, true),
  (⟨some 71, .buildSlice 25 1 #[(0, .tmp 70)], none⟩, false),
  (⟨some 72, .call { callee := .builtin .append, args := #[.tmp 63, .tmp 71], argTypes := #[25, 25] }, none⟩, false),
  (⟨some 73, .fieldAddr 27 (.tmp 7) 2, none⟩, true),
  (⟨none, .store 25 (.tmp 73) (.tmp 72), none⟩, false)] (fun a' h' => Q .normal a' h') a h) : AI Try.prog (.raw (.region id rg52_1 true)) Q a h :=
  AI_draw [(0, true), (1, true), (2, true), (3, true), (4, true), (5, true), (6, false), (7, false), (8, true), (9, false), (10, false), (11, true), (12, false)] m (by kernel_rfl) (by kernel_rfl) (by kernel_rfl) H

noncomputable def rg17_0 : Array Oper := rawAt Try.f17 0
noncomputable def rg17_1 : Array Oper := rawAt Try.f17 1
noncomputable def rg17_2 : Array Oper := rawAt Try.f17 2
/-- (*spec.l1Cur).anyPlan -/
noncomputable def c17 : IC :=
  (.seq
  (.reg [
    ⟨some 6, .alloc 27, none⟩])
  (.seq
  (.reg [
    ⟨some 10, .move (.tmp 0), none⟩,
    ⟨some 11, .move (.tmp 1), none⟩,
    ⟨some 12, .move (.tmp 2), none⟩,
    ⟨some 13, .call { callee := .value (.func 52), args := #[.tmp 10, .tmp 11, .tmp 12], argTypes := #[48, 3, 3] }, none⟩,
    ⟨some 7, .alloc 27, none⟩,
    ⟨none, .store 27 (.tmp 7) (.tmp 13), none⟩])
  (.seq
  (.seq
  (.reg [
    ⟨some 14, .move (.tmp 0), none⟩,
    ⟨some 15, .call { callee := .value (.func 53), args := #[.tmp 14, .const (.int .i64 16)], argTypes := #[48, 3] }, none⟩])
  (.block 0
  (.seq
  (.reg [
    ⟨some 17, .binOp .eql 3 (.tmp 15) (.const (.int .i64 0)) 3, none⟩,
    ⟨some 16, .assign (.tmp 17), none⟩])
  (.cond (.tmp 16)
    (.reg [
      ⟨some 18, .move (.tmp 0), none⟩,
      ⟨some 19, .buildSlice 25 5 #[(0, .const (.int .i64 (-1))), (1, .const (.int .i64 0)), (2, .const (.int .i64 1)), (3, .const (.int .i64 6)), (4, .const (.int .i64 7))], none⟩,
      ⟨some 20, .call { callee := .value (.func 19), args := #[.tmp 18, .tmp 19], argTypes := #[48, 25] }, none⟩,
      ⟨some 21, .fieldAddr 27 (.tmp 7) 0, none⟩,
      ⟨none, .store 3 (.tmp 21) (.tmp 20), none⟩])
    (.seq
    (.reg [
      ⟨some 23, .binOp .eql 3 (.tmp 15) (.const (.int .i64 1)) 3, none⟩,
      ⟨some 22, .assign (.tmp 23), none⟩])
    (.cond (.tmp 22)
      (.seq
      (.reg [
        ⟨some 24, .fieldAddr 27 (.tmp 7) 1, none⟩,
        ⟨some 25, .load 24 (.tmp 24), none⟩,
        ⟨some 26, .call { callee := .builtin .len, args := #[.tmp 25], argTypes := #[24] }, none⟩,
        ⟨some 27, .binOp .gtr 3 (.tmp 26) (.const (.int .i64 0)) 3, none⟩])
      (.cond (.tmp 27)
        (.raw (.region 7 rg17_0 true))
        .skip))
      (.seq
      (.reg [
        ⟨some 43, .binOp .eql 3 (.tmp 15) (.const (.int .i64 2)) 3, none⟩,
        ⟨some 42, .assign (.tmp 43), none⟩])
      (.cond (.tmp 42)
        (.raw (.region 9 rg17_1 true))
        (.seq
        (.reg [
          ⟨some 53, .binOp .eql 3 (.tmp 15) (.const (.int .i64 3)) 3, none⟩,
          ⟨some 52, .assign (.tmp 53), none⟩])
        (.cond (.tmp 52)
          (.seq
          (.reg [
            ⟨some 54, .build 27 #[(0, .const (.int .i64 1))], none⟩,
            ⟨none, .store 27 (.tmp 7) (.tmp 54), none⟩])
          (.seq
          (.seq
          (.reg [
            ⟨some 55, .move (.tmp 0), none⟩,
            ⟨some 56, .call { callee := .value (.func 53), args := #[.tmp 55, .const (.int .i64 4)], argTypes := #[48, 3] }, none⟩,
            ⟨some 57, .binOp .add 3 (.const (.int .i64 18)) (.tmp 56) 3, none⟩,
            ⟨some 8, .assign (.tmp 57), none⟩])
          (.block 1
          (.loop
            (.seq
            (.seq
            (.reg [
              ⟨some 58, .move (.tmp 8), none⟩,
              ⟨some 59, .binOp .gtr 3 (.tmp 58) (.const (.int .i64 0)) 3, none⟩])
            (.cond (.tmp 59)
              .skip
              (.exit 1)))
            (.seq
            (.block 2
            (.reg [
              ⟨some 62, .fieldAddr 27 (.tmp 7) 1, none⟩,
              ⟨some 63, .load 24 (.tmp 62), none⟩,
              ⟨some 64, .fieldAddr 27 (.tmp 7) 1, none⟩,
              ⟨some 65, .load 24 (.tmp 64), none⟩,
              ⟨some 66, .call { callee := .builtin .len, args := #[.tmp 65], argTypes := #[24] }, none⟩,
              ⟨some 67, .fieldAddr 27 (.tmp 7) 1, none⟩,
              ⟨some 68, .load 24 (.tmp 67), none⟩,
              ⟨some 69, .call { callee := .builtin .len, args := #[.tmp 68], argTypes := #[24] }, none⟩,
              ⟨some 70, .build 70 #[(0, .tmp 66), (1, .tmp 69)], none⟩,
              ⟨some 71, .buildSlice 24 1 #[(0, .tmp 70)], none⟩,
              ⟨some 72, .call { callee := .builtin .append, args := #[.tmp 63, .tmp 71], argTypes := #[24, 24] }, none⟩,
              ⟨some 73, .fieldAddr 27 (.tmp 7) 1, none⟩,
              ⟨none, .store 24 (.tmp 73) (.tmp 72), none⟩]))
            (.reg [
              ⟨some 60, .move (.tmp 8), none⟩,
              ⟨some 61, .binOp .sub 3 (.tmp 60) (.const (.int .i64 1)) 3, none⟩,
              ⟨some 8, .assign (.tmp 61), none⟩]))))))
          (.reg [
            ⟨some 74, .fieldAddr 27 (.tmp 7) 1, none⟩,
            ⟨some 75, .load 24 (.tmp 74), none⟩,
            ⟨some 76, .call { callee := .builtin .len, args := #[.tmp 75], argTypes := #[24] }, none⟩,
            ⟨some 77, .buildSlice 25 1 #[(0, .tmp 76)], none⟩,
            ⟨some 78, .fieldAddr 27 (.tmp 7) 2, none⟩,
            ⟨none, .store 25 (.tmp 78) (.tmp 77), none⟩])))
          (.seq
          (.reg [
            ⟨some 80, .binOp .eql 3 (.tmp 15) (.const (.int .i64 4)) 3, none⟩,
            ⟨some 79, .assign (.tmp 80), none⟩])
          (.cond (.tmp 79)
            (.block 3
            (.loop
              (.seq
              (.seq
              (.raw (.region 18 rg17_2 true))
              (.cond (.tmp 87)
                .skip
                (.exit 3)))
              (.block 4
              (.reg [
                ⟨some 88, .fieldAddr 27 (.tmp 7) 2, none⟩,
                ⟨some 89, .load 25 (.tmp 88), none⟩,
                ⟨some 90, .buildSlice 25 1 #[(0, .const (.int .i64 0))], none⟩,
                ⟨some 91, .call { callee := .builtin .append, args := #[.tmp 89, .tmp 90], argTypes := #[25, 25] }, none⟩,
                ⟨some 92, .fieldAddr 27 (.tmp 7) 2, none⟩,
                ⟨none, .store 25 (.tmp 92) (.tmp 91), none⟩])))))
            (.seq
            (.reg [
              ⟨some 94, .binOp .eql 3 (.tmp 15) (.const (.int .i64 5)) 3, none⟩,
              ⟨some 93, .assign (.tmp 94), none⟩])
            (.cond (.tmp 93)
              (.seq
              (.reg [
                ⟨some 95, .build 27 #[(0, .const (.int .i64 2))], none⟩,
                ⟨none, .store 27 (.tmp 7) (.tmp 95), none⟩])
              (.seq
              (.seq
              (.reg [
                ⟨some 96, .move (.tmp 0), none⟩,
                ⟨some 97, .call { callee := .value (.func 53), args := #[.tmp 96, .const (.int .i64 2)], argTypes := #[48, 3] }, none⟩,
                ⟨some 98, .binOp .add 3 (.const (.int .i64 40)) (.tmp 97) 3, none⟩,
                ⟨some 9, .assign (.tmp 98), none⟩])
              (.block 5
              (.loop
                (.seq
                (.seq
                (.reg [
                  ⟨some 99, .move (.tmp 9), none⟩,
                  ⟨some 100, .binOp .gtr 3 (.tmp 99) (.const (.int .i64 0)) 3, none⟩])
                (.cond (.tmp 100)
                  .skip
                  (.exit 5)))
                (.seq
                (.block 6
                (.reg [
                  ⟨some 103, .fieldAddr 27 (.tmp 7) 1, none⟩,
                  ⟨some 104, .load 24 (.tmp 103), none⟩,
                  ⟨some 105, .fieldAddr 27 (.tmp 7) 1, none⟩,
                  ⟨some 106, .load 24 (.tmp 105), none⟩,
                  ⟨some 107, .call { callee := .builtin .len, args := #[.tmp 106], argTypes := #[24] }, none⟩,
                  ⟨some 108, .binOp .add 3 (.const (.int .i64 1)) (.tmp 107) 3, none⟩,
                  ⟨some 109, .build 70 #[(0, .const (.int .i64 0)), (1, .tmp 108)], none⟩,
                  ⟨some 110, .buildSlice 24 1 #[(0, .tmp 109)], none⟩,
                  ⟨some 111, .call { callee := .builtin .append, args := #[.tmp 104, .tmp 110], argTypes := #[24, 24] }, none⟩,
                  ⟨some 112, .fieldAddr 27 (.tmp 7) 1, none⟩,
                  ⟨none, .store 24 (.tmp 112) (.tmp 111), none⟩]))
                (.reg [
                  ⟨some 101, .move (.tmp 9), none⟩,
                  ⟨some 102, .binOp .sub 3 (.tmp 101) (.const (.int .i64 1)) 3, none⟩,
                  ⟨some 9, .assign (.tmp 102), none⟩]))))))
              (.reg [
                ⟨some 113, .buildSlice 25 1 #[(0, .const (.int .i64 5))], none⟩,
                ⟨some 114, .fieldAddr 27 (.tmp 7) 2, none⟩,
                ⟨none, .store 25 (.tmp 114) (.tmp 113), none⟩])))
              .skip))))))))))))))
  (.seq
  (.reg [
    ⟨some 115, .load 27 (.tmp 7), none⟩,
    ⟨none, .store 27 (.tmp 6) (.tmp 115), none⟩])
  .ret))))
theorem hd17 : Try.f17.body.map dec = some c17 := by kernel_rfl
theorem e17 {R : AV → AH → Prop} {h : AH} (x0 x1 x2 : AV) (H : h.wf → AI Try.prog c17 (RetQ Try.prog [.cell 6 27] R) [x0, x1, x2, un, un, un, un, un, un, un, un, un, un, un, un, un, un, un, un, un, un, un, un, un, un, un, un, un, un, un, un, un, un, un, un, un, un, un, un, un, un, un, un, un, un, un, un, un, un, un, un, un, un, un, un, un, un, un, un, un, un, un, un, un, un, un, un, un, un, un, un, un, un, un, un, un, un, un, un, un, un, un, un, un, un, un, un, un, un, un, un, un, un, un, un, un, un, un, un, un, un, un, un, un, un, un, un, un, un, un, un, un, un, un, un, un] h) : AC Try.prog 17 [x0, x1, x2] h R :=
  AC_of' (rs := [.cell 6 27]) Try.func17 (by kernel_rfl) hd17 Try.ntmps17 rfl H
theorem dz17_0 {h0 : AH} {L : List It} {Q : Exit → List AV → List It → Prop} {a : List AV} {id : Nat} (H : LX Try.prog ⟨[14], []⟩ h0 L L (.c (⟨some 28, .fieldAddr 27 (.tmp 7) 1, none⟩, .p) <| .c (⟨some 29, .load 24 (.tmp 28), none⟩, .l) <| .c (⟨some 30, .move (.tmp 0), none⟩, .p) <| .c (⟨some 31, .fieldAddr 27 (.tmp 7) 1, none⟩, .p) <| .c (⟨some 32, .load 24 (.tmp 31), none⟩, .l) <| .c (⟨some 33, .call { callee := .builtin .len, args := #[.tmp 32], argTypes := #[24] }, none⟩, .p) <| .c (⟨some 35, .move (.tmp 0), none⟩, .p) <| .c (⟨some 38, .move (.tmp 0), none⟩, .p) <| .c (⟨some 34, .call { callee := .value (.func 53), args := #[.tmp 30, .tmp 33], argTypes := #[48, 3] }, none⟩, .e) <| .c (⟨some 36, .call { callee := .value (.func 53), args := #[.tmp 35, .const (.int .i64 5)], argTypes := #[48, 3] }, none⟩, .e) <| .c (⟨some 37, .binOp .sub 3 (.tmp 36) (.const (.int .i64 1)) 3, none⟩, .p) <| .c (⟨some 39, .call { callee := .value (.func 53), args := #[.tmp 38, .const (.int .i64 8)], argTypes := #[48, 3] }, none⟩, .e) <| .c (⟨some 40, .build 70 #[(0, .tmp 37), (1, .tmp 39)], none⟩, .p) <| .c (⟨some 41, .indexAddr 24 (.tmp 29) (.tmp 34), none⟩, .p) <| .c (⟨none, .store 70 (.tmp 41) (.tmp 40), none⟩, .f) <| .n) Q a) : LI Try.prog h0 L (.raw (.region id rg17_0 true)) Q a :=
  LI_draw (.c (0, .p) <| .c (1, .l) <| .c (2, .p) <| .c (3, .p) <| .c (4, .l) <| .c (5, .p) <| .c (7, .p) <| .c (10, .p) <| .c (6, .e) <| .c (8, .e) <| .c (9, .p) <| .c (11, .e) <| .c (12, .p) <| .c (13, .p) <| .c (14, .f) <| .n) [14] (by kernel_rfl) (by kernel_rfl) (by kernel_rfl) H
theorem db17_0 {h0 : AH} {L : List It} {Q : Exit → List AV → List It → Prop} {a : List AV} {id : Nat} (K : List (Nat × List AV)) (hK : ∀ x ∈ K, It.pt x.1 x.2 ∈ L) (H : LX Try.prog ⟨[6, 8, 11, 14], K⟩ h0 L L (.c (⟨some 28, .fieldAddr 27 (.tmp 7) 1, none⟩, .p) <| .c (⟨some 30, .move (.tmp 0), none⟩, .p) <| .c (⟨some 31, .fieldAddr 27 (.tmp 7) 1, none⟩, .p) <| .c (⟨some 32, .load 24 (.tmp 31), none⟩, .l) <| .c (⟨some 33, .call { callee := .builtin .len, args := #[.tmp 32], argTypes := #[24] }, none⟩, .p) <| .c (⟨some 35, .move (.tmp 0), none⟩, .p) <| .c (⟨some 38, .move (.tmp 0), none⟩, .p) <| .t (.c (⟨some 29, .load 24 (.tmp 28), none⟩, .e) <| .c (⟨some 34, .call { callee := .value (.func 53), args := #[.tmp 30, .tmp 33], argTypes := #[48, 3] }, none⟩, .f) <| .c (⟨some 36, .call { callee := .value (.func 53), args := #[.tmp 35, .const (.int .i64 5)], argTypes := #[48, 3] }, none⟩, .f) <| .c (⟨some 37, .binOp .sub 3 (.tmp 36) (.const (.int .i64 1)) 3, none⟩, .p) <| .c (⟨some 39, .call { callee := .value (.func 53), args := #[.tmp 38, .const (.int .i64 8)], argTypes := #[48, 3] }, none⟩, .f) <| .c (⟨some 40, .build 70 #[(0, .tmp 37), (1, .tmp 39)], none⟩, .p) <| .c (⟨some 41, .indexAddr 24 (.tmp 29) (.tmp 34), none⟩, .p) <| .c (⟨none, .store 70 (.tmp 41) (.tmp 40), none⟩, .f) <| .n) (.c (⟨some 34, .call { callee := .value (.func 53), args := #[.tmp 30, .tmp 33], argTypes := #[48, 3] }, none⟩, .f) <| .t (.c (⟨some 29, .load 24 (.tmp 28), none⟩, .e) <| .c (⟨some 36, .call { callee := .value (.func 53), args := #[.tmp 35, .const (.int .i64 5)], argTypes := #[48, 3] }, none⟩, .f) <| .c (⟨some 37, .binOp .sub 3 (.tmp 36) (.const (.int .i64 1)) 3, none⟩, .p) <| .c (⟨some 39, .call { callee := .value (.func 53), args := #[.tmp 38, .const (.int .i64 8)], argTypes := #[48, 3] }, none⟩, .f) <| .c (⟨some 40, .build 70 #[(0, .tmp 37), (1, .tmp 39)], none⟩, .p) <| .c (⟨some 41, .indexAddr 24 (.tmp 29) (.tmp 34), none⟩, .p) <| .c (⟨none, .store 70 (.tmp 41) (.tmp 40), none⟩, .f) <| .n) (.c (⟨some 36, .call { callee := .value (.func 53), args := #[.tmp 35, .const (.int .i64 5)], argTypes := #[48, 3] }, none⟩, .f) <| .c (⟨some 37, .binOp .sub 3 (.tmp 36) (.const (.int .i64 1)) 3, none⟩, .p) <| .t (.c (⟨some 29, .load 24 (.tmp 28), none⟩, .e) <| .c (⟨some 39, .call { callee := .value (.func 53), args := #[.tmp 38, .const (.int .i64 8)], argTypes := #[48, 3] }, none⟩, .f) <| .c (⟨some 40, .build 70 #[(0, .tmp 37), (1, .tmp 39)], none⟩, .p) <| .c (⟨some 41, .indexAddr 24 (.tmp 29) (.tmp 34), none⟩, .p) <| .c (⟨none, .store 70 (.tmp 41) (.tmp 40), none⟩, .f) <| .n) (.c (⟨some 39, .call { callee := .value (.func 53), args := #[.tmp 38, .const (.int .i64 8)], argTypes := #[48, 3] }, none⟩, .f) <| .c (⟨some 40, .build 70 #[(0, .tmp 37), (1, .tmp 39)], none⟩, .p) <| .c (⟨some 29, .load 24 (.tmp 28), none⟩, .e) <| .c (⟨some 41, .indexAddr 24 (.tmp 29) (.tmp 34), none⟩, .p) <| .c (⟨none, .store 70 (.tmp 41) (.tmp 40), none⟩, .f) <| .n)))) Q a) : LI Try.prog h0 L (.raw (.region id rg17_0 true)) Q a :=
  LI_drawK (.c (0, .p) <| .c (2, .p) <| .c (3, .p) <| .c (4, .l) <| .c (5, .p) <| .c (7, .p) <| .c (10, .p) <| .t (.c (1, .e) <| .c (6, .f) <| .c (8, .f) <| .c (9, .p) <| .c (11, .f) <| .c (12, .p) <| .c (13, .p) <| .c (14, .f) <| .n) (.c (6, .f) <| .t (.c (1, .e) <| .c (8, .f) <| .c (9, .p) <| .c (11, .f) <| .c (12, .p) <| .c (13, .p) <| .c (14, .f) <| .n) (.c (8, .f) <| .c (9, .p) <| .t (.c (1, .e) <| .c (11, .f) <| .c (12, .p) <| .c (13, .p) <| .c (14, .f) <| .n) (.c (11, .f) <| .c (12, .p) <| .c (1, .e) <| .c (13, .p) <| .c (14, .f) <| .n)))) [6, 8, 11, 14] K hK (by kernel_rfl) (by kernel_rfl) (by kernel_rfl) H
theorem dr17_0 (m : Nat) {Q : Exit → List AV → AH → Prop} {a : List AV} {h : AH} {id : Nat} (H : AX Try.prog m h [(⟨some 28, .fieldAddr 27 (.tmp 7) 1, none⟩, true),
  (⟨some 29, .load 24 (.tmp 28), none⟩, true),
  (⟨some 30, .move (.tmp 0), none⟩, true),
  (⟨some 31, .fieldAddr 27 (.tmp 7) 1, none⟩, true),
  (⟨some 32, .load 24 (.tmp 31), none⟩, true),
  (⟨some 33, .call { callee := .builtin .len, args := #[.tmp 32], argTypes := #[24] }, none⟩, true),
  (⟨some 35, .move (.tmp 0), none⟩, true),
  (⟨some 38, .move (.tmp 0), none⟩, true),
  (⟨some 34, .call { callee := .value (.func 53), args := #[.tmp 30, .tmp 33], argTypes := #[48, 3] }, none⟩, false),
  (⟨some 36, .call { callee := .value (.func 53), args := #[.tmp 35, .const (.int .i64 5)], argTypes := #[48, 3] }, none⟩, false),
  (⟨some 37, .binOp .sub 3 (.tmp 36) (.const (.int .i64 1)) 3, none⟩, true),
  (⟨some 39, .call { callee := .value (.func 53), args := #[.tmp 38, .const (.int .i64 8)], argTypes := #[48, 3] }, none⟩, false),
  (⟨some 40, .build 70 #[(0, .tmp 37), (1, .tmp 39)], none⟩, true),
  (⟨some 41, .indexAddr 24 (.tmp 29) (.tmp 34), none⟩, true),
  (⟨none, .store 70 (.tmp 41) (.tmp 40), none⟩, false)] (fun a' h' => Q .normal a' h') a h) : AI Try.prog (.raw (.region id rg17_0 true)) Q a h :=
  AI_draw [(0, true), (1, true), (2, true), (3, true), (4, true), (5, true), (7, true), (10, true), (6, false), (8, false), (9, true), (11, false), (12, true), (13, true), (14, false)] m (by kernel_rfl) (by kernel_rfl) (by kernel_rfl) H
theorem dz17_1 {h0 : AH} {L : List It} {Q : Exit → List AV → List It → Prop} {a : List AV} {id : Nat} (H : LX Try.prog ⟨[6, 8], []⟩ h0 L L (.c (⟨some 44, .fieldAddr 27 (.tmp 7) 2, none⟩, .p) <| .c (⟨some 45, .load 25 (.tmp 44), none⟩, .l) <| .c (⟨some 46, .move (.tmp 0), none⟩, .p) <| .c (⟨some 47, .call { callee := .value (.func 53), args := #[.tmp 46, .const (.int .i64 12)], argTypes := #[48, 3] }, none⟩, .e) <| .c (⟨some 48, .binOp .sub 3 (.tmp 47) (.const (.int .i64 1)) 3, none⟩, .p) <| .c (⟨some 49, .buildSlice 25 1 #[(0, .tmp 48)], none⟩, .e) <| .c (⟨some 50, .call { callee := .builtin .append, args := #[.tmp 45, .tmp 49], argTypes := #[25, 25] }, none⟩, .f) <| .c (⟨some 51, .fieldAddr 27 (.tmp 7) 2, none⟩, .p) <| .c (⟨none, .store 25 (.tmp 51) (.tmp 50), none⟩, .f) <| .n) Q a) : LI Try.prog h0 L (.raw (.region id rg17_1 true)) Q a :=
  LI_draw (.c (0, .p) <| .c (1, .l) <| .c (2, .p) <| .c (3, .e) <| .c (4, .p) <| .c (5, .e) <| .c (6, .f) <| .c (7, .p) <| .c (8, .f) <| .n) [6, 8] (by kernel_rfl) (by kernel_rfl) (by kernel_rfl) H
theorem db17_1 {h0 : AH} {L : List It} {Q : Exit → List AV → List It → Prop} {a : List AV} {id : Nat} (K : List (Nat × List AV)) (hK : ∀ x ∈ K, It.pt x.1 x.2 ∈ L) (H : LX Try.prog ⟨[3, 5, 6, 8], K⟩ h0 L L (.c (⟨some 44, .fieldAddr 27 (.tmp 7) 2, none⟩, .p) <| .c (⟨some 46, .move (.tmp 0), none⟩, .p) <| .t (.c (⟨some 45, .load 25 (.tmp 44), none⟩, .e) <| .c (⟨some 47, .call { callee := .value (.func 53), args := #[.tmp 46, .const (.int .i64 12)], argTypes := #[48, 3] }, none⟩, .f) <| .c (⟨some 48, .binOp .sub 3 (.tmp 47) (.const (.int .i64 1)) 3, none⟩, .p) <| .c (⟨some 49, .buildSlice 25 1 #[(0, .tmp 48)], none⟩, .f) <| .c (⟨some 50, .call { callee := .builtin .append, args := #[.tmp 45, .tmp 49], argTypes := #[25, 25] }, none⟩, .f) <| .c (⟨some 51, .fieldAddr 27 (.tmp 7) 2, none⟩, .p) <| .c (⟨none, .store 25 (.tmp 51) (.tmp 50), none⟩, .f) <| .n) (.c (⟨some 47, .call { callee := .value (.func 53), args := #[.tmp 46, .const (.int .i64 12)], argTypes := #[48, 3] }, none⟩, .f) <| .c (⟨some 48, .binOp .sub 3 (.tmp 47) (.const (.int .i64 1)) 3, none⟩, .p) <| .t (.c (⟨some 45, .load 25 (.tmp 44), none⟩, .e) <| .c (⟨some 49, .buildSlice 25 1 #[(0, .tmp 48)], none⟩, .f) <| .c (⟨some 50, .call { callee := .builtin .append, args := #[.tmp 45, .tmp 49], argTypes := #[25, 25] }, none⟩, .f) <| .c (⟨some 51, .fieldAddr 27 (.tmp 7) 2, none⟩, .p) <| .c (⟨none, .store 25 (.tmp 51) (.tmp 50), none⟩, .f) <| .n) (.c (⟨some 49, .buildSlice 25 1 #[(0, .tmp 48)], none⟩, .f) <| .c (⟨some 45, .load 25 (.tmp 44), none⟩, .e) <| .c (⟨some 50, .call { callee := .builtin .append, args := #[.tmp 45, .tmp 49], argTypes := #[25, 25] }, none⟩, .f) <| .c (⟨some 51, .fieldAddr 27 (.tmp 7) 2, none⟩, .p) <| .c (⟨none, .store 25 (.tmp 51) (.tmp 50), none⟩, .f) <| .n))) Q a) : LI Try.prog h0 L (.raw (.region id rg17_1 true)) Q a :=
  LI_drawK (.c (0, .p) <| .c (2, .p) <| .t (.c (1, .e) <| .c (3, .f) <| .c (4, .p) <| .c (5, .f) <| .c (6, .f) <| .c (7, .p) <| .c (8, .f) <| .n) (.c (3, .f) <| .c (4, .p) <| .t (.c (1, .e) <| .c (5, .f) <| .c (6, .f) <| .c (7, .p) <| .c (8, .f) <| .n) (.c (5, .f) <| .c (1, .e) <| .c (6, .f) <| .c (7, .p) <| .c (8, .f) <| .n))) [3, 5, 6, 8] K hK (by kernel_rfl) (by kernel_rfl) (by kernel_rfl) H
theorem dr17_1 (m : Nat) {Q : Exit → List AV → AH → Prop} {a : List AV} {h : AH} {id : Nat} (H : AX Try.prog m h [(⟨some 44, .fieldAddr 27 (.tmp 7) 2, none⟩, true),
  (⟨some 45, .load 25 (.tmp 44), none⟩, true),
  (⟨some 46, .move (.tmp 0), none⟩, true),
  (⟨some 47, .call { callee := .value (.func 53), args := #[.tmp 46, .const (.int .i64 12)], argTypes := #[48, 3] }, none⟩, false),
  (⟨some 48, .binOp .sub 3 (.tmp 47) (.const (.int .i64 1)) 3, none⟩, true),
  (⟨some 49, .buildSlice 25 1 #[(0, .tmp 48)], none⟩, false),
  (⟨some 50, .call { callee := .builtin .append, args := #[.tmp 45, .tmp 49], argTypes := #[25, 25] }, none⟩, false),
  (⟨some 51, .fieldAddr 27 (.tmp 7) 2, none⟩, true),
  (⟨none, .store 25 (.tmp 51) (.tmp 50), none⟩, false)] (fun a' h' => Q .normal a' h') a h) : AI Try.prog (.raw (.region id rg17_1 true)) Q a h :=
  AI_draw [(0, true), (1, true), (2, true), (3, false), (4, true), (5, false), (6, false), (7, true), (8, false)] m (by kernel_rfl) (by kernel_rfl) (by kernel_rfl) H
theorem dz17_2 {h0 : AH} {L : List It} {Q : Exit → List AV → List It → Prop} {a : List AV} {id : Nat} (H : LX Try.prog ⟨[], []⟩ h0 L L (.c (⟨some 81, .fieldAddr 27 (.tmp 7) 2, none⟩, .p) <| .c (⟨some 82, .load 25 (.tmp 81), none⟩, .l) <| .c (⟨some 83, .call { callee := .builtin .len, args := #[.tmp 82], argTypes := #[25] }, none⟩, .p) <| .c (⟨some 84, .move (.tmp 0), none⟩, .p) <| .c (⟨some 85, .call { callee := .value (.func 53), args := #[.tmp 84, .const (.int .i64 2)], argTypes := #[48, 3] }, none⟩, .e) <| .c (⟨some 86, .binOp .add 3 (.const (.int .i64 6)) (.tmp 85) 3, none⟩, .p) <| .c (⟨some 87, .binOp .lss 3 (.tmp 83) (.tmp 86) 3, none⟩, .p) <| .n) Q a) : LI Try.prog h0 L (.raw (.region id rg17_2 true)) Q a :=
  LI_draw (.c (0, .p) <| .c (1, .l) <| .c (2, .p) <| .c (3, .p) <| .c (4, .e) <| .c (5, .p) <| .c (6, .p) <| .n) [] (by kernel_rfl) (by kernel_rfl) (by kernel_rfl) H
theorem db17_2 {h0 : AH} {L : List It} {Q : Exit → List AV → List It → Prop} {a : List AV} {id : Nat} (K : List (Nat × List AV)) (hK : ∀ x ∈ K, It.pt x.1 x.2 ∈ L) (H : LX Try.prog ⟨[4], K⟩ h0 L L (.c (⟨some 81, .fieldAddr 27 (.tmp 7) 2, none⟩, .p) <| .c (⟨some 84, .move (.tmp 0), none⟩, .p) <| .t (.c (⟨some 82, .load 25 (.tmp 81), none⟩, .e) <| .c (⟨some 83, .call { callee := .builtin .len, args := #[.tmp 82], argTypes := #[25] }, none⟩, .p) <| .c (⟨some 85, .call { callee := .value (.func 53), args := #[.tmp 84, .const (.int .i64 2)], argTypes := #[48, 3] }, none⟩, .f) <| .c (⟨some 86, .binOp .add 3 (.const (.int .i64 6)) (.tmp 85) 3, none⟩, .p) <| .c (⟨some 87, .binOp .lss 3 (.tmp 83) (.tmp 86) 3, none⟩, .p) <| .n) (.c (⟨some 85, .call { callee := .value (.func 53), args := #[.tmp 84, .const (.int .i64 2)], argTypes := #[48, 3] }, none⟩, .f) <| .c (⟨some 86, .binOp .add 3 (.const (.int .i64 6)) (.tmp 85) 3, none⟩, .p) <| .c (⟨some 82, .load 25 (.tmp 81), none⟩, .e) <| .c (⟨some 83, .call { callee := .builtin .len, args := #[.tmp 82], argTypes := #[25] }, none⟩, .p) <| .c (⟨some 87, .binOp .lss 3 (.tmp 83) (.tmp 86) 3, none⟩, .p) <| .n)) Q a) : LI Try.prog h0 L (.raw (.region id rg17_2 true)) Q a :=
  LI_drawK (.c (0, .p) <| .c (3, .p) <| .t (.c (1, .e) <| .c (2, .p) <| .c (4, .f) <| .c (5, .p) <| .c (6, .p) <| .n) (.c (4, .f) <| .c (5, .p) <| .c (1, .e) <| .c (2, .p) <| .c (6, .p) <| .n)) [4] K hK (by kernel_rfl) (by kernel_rfl) (by kernel_rfl) H
theorem dr17_2 (m : Nat) {Q : Exit → List AV → AH → Prop} {a : List AV} {h : AH} {id : Nat} (H : AX Try.prog m h [(⟨some 81, .fieldAddr 27 (.tmp 7) 2, none⟩, true),
  (⟨some 82, .load 25 (.tmp 81), none⟩, true),
  (⟨some 83, .call { callee := .builtin .len, args := #[.tmp 82], argTypes := #[25] }, none⟩, true),
  (⟨some 84, .move (.tmp 0), none⟩, true),
  (⟨some 85, .call { callee := .value (.func 53), args := #[.tmp 84, .const (.int .i64 2)], argTypes := #[48, 3] }, none⟩, false),
  (⟨some 86, .binOp .add 3 (.const (.int .i64 6)) (.tmp 85) 3, none⟩, true),
  (⟨some 87, .binOp .lss 3 (.tmp 83) (.tmp 86) 3, none⟩, true)] (fun a' h' => Q .normal a' h') a h) : AI Try.prog (.raw (.region id rg17_2 true)) Q a h :=
  AI_draw [(0, true), (1, true), (2, true), (3, true), (4, false), (5, true), (6, true)] m (by kernel_rfl) (by kernel_rfl) (by kernel_rfl) H

/-- (*spec.l1Cur).inputs -/
def c18 : IC :=
  (.seq
  (.reg [
    ⟨some 2, .assign (.const (.int .i64 0)), none⟩])
  (.seq
  (.reg [
    ⟨some 3, .move (.tmp 0), none⟩,
    ⟨some 4, .buildSlice 25 6 #[(0, .const (.int .i64 1)), (1, .const (.int .i64 1)), (2, .const (.int .i64 2)), (3, .const (.int .i64 2)), (4, .const (.int .i64 3)), (5, .const (.int .i64 4))], none⟩,
    ⟨some 5, .call { callee := .value (.func 19), args := #[.tmp 3, .tmp 4], argTypes := #[48, 25] }, none⟩,
    ⟨some 2, .assign (.tmp 5), none⟩])
  .ret))
theorem hd18 : Try.f18.body.map dec = some c18 := by kernel_rfl
theorem e18 {R : AV → AH → Prop} {h : AH} (x0 : AV) (H : h.wf → AI Try.prog c18 (RetQ Try.prog [.tmp 2] R) [x0, un, un, un, un, un] h) : AC Try.prog 18 [x0] h R :=
  AC_of' (rs := [.tmp 2]) Try.func18 (by kernel_rfl) hd18 Try.ntmps18 rfl H

/-- (*spec.l1Cur).modulus6 -/
def c20 : IC :=
  (.seq
  (.reg [
    ⟨some 2, .assign (.const (.int .i64 0)), none⟩])
  (.seq
  (.seq
  (.reg [
    ⟨some 3, .move (.tmp 0), none⟩,
    ⟨some 4, .call { callee := .value (.func 54), args := #[.tmp 3, .const (.int .i64 12)], argTypes := #[48, 3] }, none⟩])
  (.cond (.tmp 4)
    (.seq
    (.reg [
      ⟨some 5, .move (.tmp 0), none⟩,
      ⟨some 6, .buildSlice 25 6 #[(0, .const (.int .i64 (-1))), (1, .const (.int .i64 0)), (2, .const (.int .i64 1)), (3, .const (.int .i64 2)), (4, .const (.int .i64 10000)), (5, .const (.int .i64 10001))], none⟩,
      ⟨some 7, .call { callee := .value (.func 19), args := #[.tmp 5, .tmp 6], argTypes := #[48, 25] }, none⟩,
      ⟨some 2, .assign (.tmp 7), none⟩])
    .ret)
    .skip))
  (.seq
  (.reg [
    ⟨some 8, .move (.tmp 0), none⟩,
    ⟨some 9, .move (.tmp 0), none⟩,
    ⟨some 10, .buildSlice 25 3 #[(0, .const (.int .i64 6)), (1, .const (.int .i64 30)), (2, .const (.int .i64 1000))], none⟩,
    ⟨some 11, .call { callee := .value (.func 19), args := #[.tmp 9, .tmp 10], argTypes := #[48, 25] }, none⟩,
    ⟨some 12, .call { callee := .value (.func 53), args := #[.tmp 8, .tmp 11], argTypes := #[48, 3] }, none⟩,
    ⟨some 13, .binOp .add 3 (.const (.int .i64 2)) (.tmp 12) 3, none⟩,
    ⟨some 2, .assign (.tmp 13), none⟩])
  .ret)))
theorem hd20 : Try.f20.body.map dec = some c20 := by kernel_rfl
theorem e20 {R : AV → AH → Prop} {h : AH} (x0 : AV) (H : h.wf → AI Try.prog c20 (RetQ Try.prog [.tmp 2] R) [x0, un, un, un, un, un, un, un, un, un, un, un, un, un] h) : AC Try.prog 20 [x0] h R :=
  AC_of' (rs := [.tmp 2]) Try.func20 (by kernel_rfl) hd20 Try.ntmps20 rfl H

/-- (*spec.l1Cur).residue -/
def c55 : IC :=
  (.seq
  (.reg [
    ⟨some 4, .assign (.const (.int .i64 0)), none⟩])
  (.seq
  (.seq
  (.reg [
    ⟨some 5, .move (.tmp 0), none⟩,
    ⟨some 6, .call { callee := .value (.func 54), args := #[.tmp 5, .const (.int .i64 40)], argTypes := #[48, 3] }, none⟩])
  (.cond (.tmp 6)
    (.seq
    (.reg [
      ⟨some 7, .move (.tmp 0), none⟩,
      ⟨some 8, .move (.tmp 1), none⟩,
      ⟨some 9, .buildSlice 25 3 #[(0, .const (.int .i64 (-1))), (1, .tmp 8), (2, .const (.int .i64 4611686018427387904))], none⟩,
      ⟨some 10, .call { callee := .value (.func 19), args := #[.tmp 7, .tmp 9], argTypes := #[48, 25] }, none⟩,
      ⟨some 4, .assign (.tmp 10), none⟩])
    .ret)
    .skip))
  (.seq
  (.reg [
    ⟨some 11, .move (.tmp 0), none⟩,
    ⟨some 12, .move (.tmp 1), none⟩,
    ⟨some 13, .call { callee := .value (.func 22), args := #[.tmp 12, .const (.int .i64 20000)], argTypes := #[3, 3] }, none⟩,
    ⟨some 14, .call { callee := .value (.func 21), args := #[.const (.int .i64 1), .tmp 13], argTypes := #[3, 3] }, none⟩,
    ⟨some 15, .call { callee := .value (.func 53), args := #[.tmp 11, .tmp 14], argTypes := #[48, 3] }, none⟩,
    ⟨some 4, .assign (.tmp 15), none⟩])
  .ret)))
theorem hd55 : Try.f55.body.map dec = some c55 := by kernel_rfl
theorem e55 {R : AV → AH → Prop} {h : AH} (x0 x1 : AV) (H : h.wf → AI Try.prog c55 (RetQ Try.prog [.tmp 4] R) [x0, x1, un, un, un, un, un, un, un, un, un, un, un, un, un, un] h) : AC Try.prog 55 [x0, x1] h R :=
  AC_of' (rs := [.tmp 4]) Try.func55 (by kernel_rfl) hd55 Try.ntmps55 rfl H

/-- (*spec.l1Cur).matrix -/
def c23 : IC :=
  (.seq
  (.reg [
    ⟨some 4, .alloc 37, none⟩])
  (.seq
  (.reg [
    ⟨some 5, .move (.tmp 0), none⟩,
    ⟨some 6, .move (.tmp 1), none⟩,
    ⟨some 7, .call { callee := .value (.func 55), args := #[.tmp 5, .tmp 6], argTypes := #[48, 3] }, none⟩,
    ⟨some 8, .move (.tmp 0), none⟩,
    ⟨some 9, .move (.tmp 1), none⟩,
    ⟨some 10, .call { callee := .value (.func 55), args := #[.tmp 8, .tmp 9], argTypes := #[48, 3] }, none⟩,
    ⟨some 11, .move (.tmp 0), none⟩,
    ⟨some 12, .move (.tmp 1), none⟩,
    ⟨some 13, .call { callee := .value (.func 55), args := #[.tmp 11, .tmp 12], argTypes := #[48, 3] }, none⟩,
    ⟨some 14, .move (.tmp 0), none⟩,
    ⟨some 15, .move (.tmp 1), none⟩,
    ⟨some 16, .call { callee := .value (.func 55), args := #[.tmp 14, .tmp 15], argTypes := #[48, 3] }, none⟩,
    ⟨some 17, .build 37 #[(0, .tmp 7), (1, .tmp 10), (2, .tmp 13), (3, .tmp 16)], none⟩,
    ⟨none, .store 37 (.tmp 4) (.tmp 17), none⟩])
  .ret))
theorem hd23 : Try.f23.body.map dec = some c23 := by kernel_rfl
theorem e23 {R : AV → AH → Prop} {h : AH} (x0 x1 : AV) (H : h.wf → AI Try.prog c23 (RetQ Try.prog [.cell 4 37] R) [x0, x1, un, un, un, un, un, un, un, un, un, un, un, un, un, un, un, un] h) : AC Try.prog 23 [x0, x1] h R :=
  AC_of' (rs := [.cell 4 37]) Try.func23 (by kernel_rfl) hd23 Try.ntmps23 rfl H

/-- spec.DrawRunMatrices -/
def c6 : IC :=
  (.seq
  (.reg [
    ⟨some 2, .alloc 27, none⟩,
    ⟨some 3, .assign (.const (.int .i64 0)), none⟩,
    ⟨some 4, .assign (.const (.slice none 0 0)), none⟩])
  (.seq
  (.reg [
    ⟨some 10, .move (.tmp 0), none⟩,
    ⟨some 11, .build 51 #[(0, .tmp 10)], none⟩,
    ⟨some 12, .box 51 (.tmp 11), none⟩,
    ⟨some 5, .assign (.tmp 12), none⟩])
  (.seq
  (.reg [
    ⟨some 13, .move (.tmp 5), none⟩,
    ⟨some 14, .move (.tmp 5), none⟩,
    ⟨some 15, .call { callee := .value (.func 18), args := #[.tmp 14], argTypes := #[48] }, none⟩,
    ⟨some 16, .move (.tmp 5), none⟩,
    ⟨some 17, .buildSlice 25 3 #[(0, .const (.int .i64 3)), (1, .const (.int .i64 6)), (2, .const (.int .i64 10))], none⟩,
    ⟨some 18, .call { callee := .value (.func 19), args := #[.tmp 16, .tmp 17], argTypes := #[48, 25] }, none⟩,
    ⟨some 19, .call { callee := .value (.func 17), args := #[.tmp 13, .tmp 15, .tmp 18], argTypes := #[48, 3, 3] }, none⟩,
    ⟨some 6, .alloc 27, none⟩,
    ⟨none, .store 27 (.tmp 6) (.tmp 19), none⟩])
  (.seq
  (.reg [
    ⟨some 20, .move (.tmp 5), none⟩,
    ⟨some 21, .call { callee := .value (.func 20), args := #[.tmp 20], argTypes := #[48] }, none⟩,
    ⟨some 7, .assign (.tmp 21), none⟩])
  (.seq
  (.reg [
    ⟨some 8, .assign (.const (.slice none 0 0)), none⟩])
  (.seq
  (.seq
  (.reg [
    ⟨some 22, .fieldAddr 27 (.tmp 6) 0, none⟩,
    ⟨some 23, .load 3 (.tmp 22), none⟩,
    ⟨some 24, .call { callee := .value (.func 22), args := #[.tmp 23, .const (.int .i64 9)], argTypes := #[3, 3] }, none⟩,
    ⟨some 25, .call { callee := .value (.func 21), args := #[.const (.int .i64 0), .tmp 24], argTypes := #[3, 3] }, none⟩,
    ⟨some 9, .assign (.tmp 25), none⟩])
  (.block 0
  (.loop
    (.seq
    (.seq
    (.reg [
      ⟨some 26, .move (.tmp 9), none⟩,
      ⟨some 27, .binOp .gtr 3 (.tmp 26) (.const (.int .i64 0)) 3, none⟩])
    (.cond (.tmp 27)
      .skip
      (.exit 0)))
    (.seq
    (.block 1
    (.reg [
      ⟨some 30, .move (.tmp 8), none⟩,
      ⟨some 31, .move (.tmp 5), none⟩,
      ⟨some 32, .move (.tmp 7), none⟩,
      ⟨some 33, .call { callee := .value (.func 23), args := #[.tmp 31, .tmp 32], argTypes := #[48, 3] }, none⟩,
      ⟨some 34, .buildSlice 28 1 #[(0, .tmp 33)], none⟩,
      ⟨some 35, .call { callee := .builtin .append, args := #[.tmp 30, .tmp 34], argTypes := #[28, 28] }, none⟩,
      ⟨some 8, .assign (.tmp 35), none⟩]))
    (.reg [
      ⟨some 28, .move (.tmp 9), none⟩,
      ⟨some 29, .binOp .sub 3 (.tmp 28) (.const (.int .i64 1)) 3, none⟩,
      ⟨some 9, .assign (.tmp 29), none⟩]))))))
  (.seq
  (.reg [
    ⟨some 36, .load 27 (.tmp 6), none⟩,
    ⟨some 37, .move (.tmp 7), none⟩,
    ⟨some 38, .move (.tmp 8), none⟩,
    ⟨none, .store 27 (.tmp 2) (.tmp 36), none⟩,
    ⟨some 3, .assign (.tmp 37), none⟩,
    ⟨some 4, .assign (.tmp 38), none⟩])
  .ret)))))))
theorem hd6 : Try.f6.body.map dec = some c6 := by kernel_rfl
theorem e6 {R : AV → AH → Prop} {h : AH} (x0 : AV) (H : h.wf → AI Try.prog c6 (RetQ Try.prog [.cell 2 27, .tmp 3, .tmp 4] R) [x0, un, un, un, un, un, un, un, un, un, un, un, un, un, un, un, un, un, un, un, un, un, un, un, un, un, un, un, un, un, un, un, un, un, un, un, un, un, un] h) : AC Try.prog 6 [x0] h R :=
  AC_of' (rs := [.cell 2 27, .tmp 3, .tmp 4]) Try.func6 (by kernel_rfl) hd6 Try.ntmps6 rfl H

/-- slices.IndexFunc[[]impl.Matrix,impl.Matrix] -/
def c56 : IC :=
  (.seq
  (.reg [
    ⟨some 4, .assign (.const (.int .i64 0)), none⟩])
  (.seq
  (.seq
  (.reg [
    ⟨some 6, .move (.tmp 0), none⟩,
    ⟨some 7, .call { callee := .builtin .len, args := #[.tmp 6], argTypes := #[28] }, none⟩,
    ⟨some 8, .move (.const (.int .i64 0)), none⟩])
  (.block 0
  (.loop
    (.seq
    (.reg [
      ⟨some 9, .binOp .lss 3 (.tmp 8) (.tmp 7) 3, none⟩])
    (.seq
    (.cond (.tmp 9)
      .skip
      (.exit 0))
    (.seq
    (.block 1
    (.seq
    (.reg [
      ⟨some 10, .move (.tmp 8), none⟩,
      ⟨some 5, .assign (.tmp 10), none⟩])
    (.seq
    (.reg [
      ⟨some 11, .move (.tmp 1), none⟩,
      ⟨some 12, .move (.tmp 0), none⟩,
      ⟨some 13, .move (.tmp 5), none⟩,
      ⟨some 14, .indexAddr 28 (.tmp 12) (.tmp 13), none⟩,
      ⟨some 15, .load 37 (.tmp 14), none⟩,
      ⟨some 16, .call { callee := .value (.tmp 11), args := #[.tmp 15], argTypes := #[37] }, none⟩])
    (.cond (.tmp 16)
      (.seq
      (.reg [
        ⟨some 17, .move (.tmp 5), none⟩,
        ⟨some 4, .assign (.tmp 17), none⟩])
      .ret)
      .skip))))
    (.reg [
      ⟨some 18, .binOp .add 3 (.tmp 8) (.const (.int .i64 1)) 3, none⟩,
      ⟨some 8, .move (.tmp 18), none⟩])))))))
  (.seq
  (.reg [
    ⟨some 4, .assign (.const (.int .i64 (-1))), none⟩])
  .ret)))
theorem hd56 : Try.f56.body.map dec = some c56 := by kernel_rfl
theorem e56 {R : AV → AH → Prop} {h : AH} (x0 x1 : AV) (H : h.wf → AI Try.prog c56 (RetQ Try.prog [.tmp 4] R) [x0, x1, un, un, un, un, un, un, un, un, un, un, un, un, un, un, un, un, un] h) : AC Try.prog 56 [x0, x1] h R :=
  AC_of' (rs := [.tmp 4]) Try.func56 (by kernel_rfl) hd56 Try.ntmps56 rfl H

/-- slices.ContainsFunc[[]impl.Matrix,impl.Matrix] -/
def c24 : IC :=
  (.seq
  (.reg [
    ⟨some 4, .assign (.const (.bool false)), none⟩])
  (.seq
  (.reg [
    ⟨some 5, .move (.tmp 0), none⟩,
    ⟨some 6, .move (.tmp 1), none⟩,
    ⟨some 7, .call { callee := .value (.func 56), args := #[.tmp 5, .tmp 6], argTypes := #[28, 60] }, none⟩,
    ⟨some 8, .binOp .geq 3 (.tmp 7) (.const (.int .i64 0)) 3, none⟩,
    ⟨some 4, .assign (.tmp 8), none⟩])
  .ret))
theorem hd24 : Try.f24.body.map dec = some c24 := by kernel_rfl
theorem e24 {R : AV → AH → Prop} {h : AH} (x0 x1 : AV) (H : h.wf → AI Try.prog c24 (RetQ Try.prog [.tmp 4] R) [x0, x1, un, un, un, un, un, un, un] h) : AC Try.prog 24 [x0, x1] h R :=
  AC_of' (rs := [.tmp 4]) Try.func24 (by kernel_rfl) hd24 Try.ntmps24 rfl H

/-- impl.in -/
def c42 : IC :=
  (.seq
  (.reg [
    ⟨some 6, .assign (.const (.bool false)), none⟩])
  (.seq
  (.reg [
    ⟨some 7, .move (.tmp 0), none⟩,
    ⟨some 8, .move (.tmp 1), none⟩,
    ⟨some 9, .binOp .geq 3 (.tmp 7) (.tmp 8) 3, none⟩,
    ⟨some 10, .move (.tmp 9), none⟩,
    ⟨some 11, .move (.tmp 0), some (10, true)⟩,
    ⟨some 12, .move (.tmp 2), some (10, true)⟩,
    ⟨some 13, .binOp .leq 3 (.tmp 11) (.tmp 12) 3, some (10, true)⟩,
    ⟨some 14, .pick (.tmp 10) (.tmp 13) (.const (.bool false)), none⟩,
    ⟨some 6, .assign (.tmp 14), none⟩])
  .ret))
theorem hd42 : Try.f42.body.map dec = some c42 := by kernel_rfl
theorem e42 {R : AV → AH → Prop} {h : AH} (x0 x1 x2 : AV) (H : h.wf → AI Try.prog c42 (RetQ Try.prog [.tmp 6] R) [x0, x1, x2, un, un, un, un, un, un, un, un, un, un, un, un] h) : AC Try.prog 42 [x0, x1, x2] h R :=
  AC_of' (rs := [.tmp 6]) Try.func42 (by kernel_rfl) hd42 Try.ntmps42 rfl H

/-- impl.modulusOk -/
def c29 : IC :=
  (.seq
  (.reg [
    ⟨some 2, .assign (.const (.bool false)), none⟩])
  (.seq
  (.reg [
    ⟨some 3, .move (.tmp 0), none⟩,
    ⟨some 4, .call { callee := .value (.func 42), args := #[.tmp 3, .const (.int .i64 2), .const (.int .i64 10000)], argTypes := #[3, 3, 3] }, none⟩,
    ⟨some 2, .assign (.tmp 4), none⟩])
  .ret))
theorem hd29 : Try.f29.body.map dec = some c29 := by kernel_rfl
theorem e29 {R : AV → AH → Prop} {h : AH} (x0 : AV) (H : h.wf → AI Try.prog c29 (RetQ Try.prog [.tmp 2] R) [x0, un, un, un, un] h) : AC Try.prog 29 [x0] h R :=
  AC_of' (rs := [.tmp 2]) Try.func29 (by kernel_rfl) hd29 Try.ntmps29 rfl H

/-- slices.IndexFunc[[]int,int] -/
def c69 : IC :=
  (.seq
  (.reg [
    ⟨some 4, .assign (.const (.int .i64 0)), none⟩])
  (.seq
  (.seq
  (.reg [
    ⟨some 6, .move (.tmp 0), none⟩,
    ⟨some 7, .call { callee := .builtin .len, args := #[.tmp 6], argTypes := #[25] }, none⟩,
    ⟨some 8, .move (.const (.int .i64 0)), none⟩])
  (.block 0
  (.loop
    (.seq
    (.reg [
      ⟨some 9, .binOp .lss 3 (.tmp 8) (.tmp 7) 3, none⟩])
    (.seq
    (.cond (.tmp 9)
      .skip
      (.exit 0))
    (.seq
    (.block 1
    (.seq
    (.reg [
      ⟨some 10, .move (.tmp 8), none⟩,
      ⟨some 5, .assign (.tmp 10), none⟩])
    (.seq
    (.reg [
      ⟨some 11, .move (.tmp 1), none⟩,
      ⟨some 12, .move (.tmp 0), none⟩,
      ⟨some 13, .move (.tmp 5), none⟩,
      ⟨some 14, .indexAddr 25 (.tmp 12) (.tmp 13), none⟩,
      ⟨some 15, .load 3 (.tmp 14), none⟩,
      ⟨some 16, .call { callee := .value (.tmp 11), args := #[.tmp 15], argTypes := #[3] }, none⟩])
    (.cond (.tmp 16)
      (.seq
      (.reg [
        ⟨some 17, .move (.tmp 5), none⟩,
        ⟨some 4, .assign (.tmp 17), none⟩])
      .ret)
      .skip))))
    (.reg [
      ⟨some 18, .binOp .add 3 (.tmp 8) (.const (.int .i64 1)) 3, none⟩,
      ⟨some 8, .move (.tmp 18), none⟩])))))))
  (.seq
  (.reg [
    ⟨some 4, .assign (.const (.int .i64 (-1))), none⟩])
  .ret)))
theorem hd69 : Try.f69.body.map dec = some c69 := by kernel_rfl
theorem e69 {R : AV → AH → Prop} {h : AH} (x0 x1 : AV) (H : h.wf → AI Try.prog c69 (RetQ Try.prog [.tmp 4] R) [x0, x1, un, un, un, un, un, un, un, un, un, un, un, un, un, un, un, un, un] h) : AC Try.prog 69 [x0, x1] h R :=
  AC_of' (rs := [.tmp 4]) Try.func69 (by kernel_rfl) hd69 Try.ntmps69 rfl H

/-- slices.ContainsFunc[[]int,int] -/
def c40 : IC :=
  (.seq
  (.reg [
    ⟨some 4, .assign (.const (.bool false)), none⟩])
  (.seq
  (.reg [
    ⟨some 5, .move (.tmp 0), none⟩,
    ⟨some 6, .move (.tmp 1), none⟩,
    ⟨some 7, .call { callee := .value (.func 69), args := #[.tmp 5, .tmp 6], argTypes := #[25, 62] }, none⟩,
    ⟨some 8, .binOp .geq 3 (.tmp 7) (.const (.int .i64 0)) 3, none⟩,
    ⟨some 4, .assign (.tmp 8), none⟩])
  .ret))
theorem hd40 : Try.f40.body.map dec = some c40 := by kernel_rfl
theorem e40 {R : AV → AH → Prop} {h : AH} (x0 x1 : AV) (H : h.wf → AI Try.prog c40 (RetQ Try.prog [.tmp 4] R) [x0, x1, un, un, un, un, un, un, un] h) : AC Try.prog 40 [x0, x1] h R :=
  AC_of' (rs := [.tmp 4]) Try.func40 (by kernel_rfl) hd40 Try.ntmps40 rfl H

/-- impl.residuesOk$1 -/
def c57 : IC :=
  (.seq
  (.reg [
    ⟨some 3, .assign (.const (.bool false)), none⟩])
  (.seq
  (.reg [
    ⟨some 4, .move (.tmp 0), none⟩,
    ⟨some 5, .load 3 (.tmp 1), none⟩,
    ⟨some 6, .binOp .sub 3 (.tmp 5) (.const (.int .i64 1)) 3, none⟩,
    ⟨some 7, .call { callee := .value (.func 42), args := #[.tmp 4, .const (.int .i64 0), .tmp 6], argTypes := #[3, 3, 3] }, none⟩,
    ⟨some 8, .unOp .not 4 (.tmp 7), none⟩,
    ⟨some 3, .assign (.tmp 8), none⟩])
  .ret))
theorem hd57 : Try.f57.body.map dec = some c57 := by kernel_rfl
theorem e57 {R : AV → AH → Prop} {h : AH} (x0 x1 : AV) (H : h.wf → AI Try.prog c57 (RetQ Try.prog [.tmp 3] R) [x0, x1, un, un, un, un, un, un, un] h) : AC Try.prog 57 [x0, x1] h R :=
  AC_of' (rs := [.tmp 3]) Try.func57 (by kernel_rfl) hd57 Try.ntmps57 rfl H

/-- impl.residuesOk -/
def c26 : IC :=
  (.seq
  (.reg [
    ⟨some 3, .box 3 (.tmp 1), none⟩,
    ⟨some 4, .assign (.const (.bool false)), none⟩])
  (.seq
  (.reg [
    ⟨some 5, .load 3 (.tmp 3), none⟩,
    ⟨some 6, .call { callee := .value (.func 29), args := #[.tmp 5], argTypes := #[3] }, none⟩,
    ⟨some 7, .move (.tmp 6), none⟩,
    ⟨some 8, .move (.tmp 0), some (7, true)⟩,
    ⟨some 9, .makeFunc (.func 57) #[] #[.tmp 3], some (7, true)⟩,
    ⟨some 10, .call { callee := .value (.func 40), args := #[.tmp 8, .tmp 9], argTypes := #[25, 62] }, some (7, true)⟩,
    ⟨some 11, .unOp .not 4 (.tmp 10), some (7, true)⟩,
    ⟨some 12, .pick (.tmp 7) (.tmp 11) (.const (.bool false)), none⟩,
    ⟨some 4, .assign (.tmp 12), none⟩])
  .ret))
theorem hd26 : Try.f26.body.map dec = some c26 := by kernel_rfl
theorem e26 {R : AV → AH → Prop} {h : AH} (x0 x1 : AV) (H : h.wf → AI Try.prog c26 (RetQ Try.prog [.tmp 4] R) [x0, x1, un, un, un, un, un, un, un, un, un, un, un] h) : AC Try.prog 26 [x0, x1] h R :=
  AC_of' (rs := [.tmp 4]) Try.func26 (by kernel_rfl) hd26 Try.ntmps26 rfl H

/-- (impl.Matrix).residues -/
def c27 : IC :=
  (.seq
  (.reg [
    ⟨some 1, .box 37 (.tmp 0), none⟩,
    ⟨some 2, .assign (.const (.slice none 0 0)), none⟩])
  (.seq
  (.reg [
    ⟨some 3, .fieldAddr 37 (.tmp 1) 0, none⟩,
    ⟨some 4, .load 3 (.tmp 3), none⟩,
    ⟨some 5, .fieldAddr 37 (.tmp 1) 1, none⟩,
    ⟨some 6, .load 3 (.tmp 5), none⟩,
    ⟨some 7, .fieldAddr 37 (.tmp 1) 2, none⟩,
    ⟨some 8, .load 3 (.tmp 7), none⟩,
    ⟨some 9, .fieldAddr 37 (.tmp 1) 3, none⟩,
    ⟨some 10, .load 3 (.tmp 9), none⟩,
    ⟨some 11, .buildSlice 25 4 #[(0, .tmp 4), (1, .tmp 6), (2, .tmp 8), (3, .tmp 10)], none⟩,
    ⟨some 2, .assign (.tmp 11), none⟩])
  .ret))
theorem hd27 : Try.f27.body.map dec = some c27 := by kernel_rfl
theorem e27 {R : AV → AH → Prop} {h : AH} (x0 : AV) (H : h.wf → AI Try.prog c27 (RetQ Try.prog [.tmp 2] R) [x0, un, un, un, un, un, un, un, un, un, un, un] h) : AC Try.prog 27 [x0] h R :=
  AC_of' (rs := [.tmp 2]) Try.func27 (by kernel_rfl) hd27 Try.ntmps27 rfl H

noncomputable def rg25_0 : Array Oper := rawAt Try.f25 0
/-- impl.RunMatrices$1 -/
noncomputable def c25 : IC :=
  (.seq
  (.reg [
    ⟨some 2, .box 37 (.tmp 0), none⟩,
    ⟨some 3, .assign (.const (.bool false)), none⟩])
  (.seq
  (.raw (.region 1 rg25_0 true))
  .ret))
theorem hd25 : Try.f25.body.map dec = some c25 := by kernel_rfl
theorem e25 {R : AV → AH → Prop} {h : AH} (x0 x1 : AV) (H : h.wf → AI Try.prog c25 (RetQ Try.prog [.tmp 3] R) [x0, x1, un, un, un, un, un, un, un] h) : AC Try.prog 25 [x0, x1] h R :=
  AC_of' (rs := [.tmp 3]) Try.func25 (by kernel_rfl) hd25 Try.ntmps25 rfl H
theorem dz25_0 {h0 : AH} {L : List It} {Q : Exit → List AV → List It → Prop} {a : List AV} {id : Nat} (H : LX Try.prog ⟨[], []⟩ h0 L L (.c (⟨some 4, .load 37 (.tmp 2), none⟩, .l) <| .c (⟨some 6, .load 3 (.tmp 1), none⟩, .l) <| .c (⟨some 5, .call { callee := .value (.func 27), args := #[.tmp 4], argTypes := #[37] }, none⟩, .e) <| .c (⟨some 7, .call { callee := .value (.func 26), args := #[.tmp 5, .tmp 6], argTypes := #[25, 3] }, none⟩, .e) <| .c (⟨some 8, .unOp .not 4 (.tmp 7), none⟩, .p) <| .c (⟨some 3, .assign (.tmp 8), none⟩, .p) <| .n) Q a) : LI Try.prog h0 L (.raw (.region id rg25_0 true)) Q a :=
  LI_draw (.c (0, .l) <| .c (2, .l) <| .c (1, .e) <| .c (3, .e) <| .c (4, .p) <| .c (5, .p) <| .n) [] (by kernel_rfl) (by kernel_rfl) (by kernel_rfl) H
theorem db25_0 {h0 : AH} {L : List It} {Q : Exit → List AV → List It → Prop} {a : List AV} {id : Nat} (K : List (Nat × List AV)) (hK : ∀ x ∈ K, It.pt x.1 x.2 ∈ L) (H : LX Try.prog ⟨[1, 3], K⟩ h0 L L (.c (⟨some 4, .load 37 (.tmp 2), none⟩, .l) <| .c (⟨some 6, .load 3 (.tmp 1), none⟩, .kp) <| .c (⟨some 5, .call { callee := .value (.func 27), args := #[.tmp 4], argTypes := #[37] }, none⟩, .f) <| .c (⟨some 7, .call { callee := .value (.func 26), args := #[.tmp 5, .tmp 6], argTypes := #[25, 3] }, none⟩, .f) <| .c (⟨some 8, .unOp .not 4 (.tmp 7), none⟩, .p) <| .c (⟨some 3, .assign (.tmp 8), none⟩, .p) <| .n) Q a) : LI Try.prog h0 L (.raw (.region id rg25_0 true)) Q a :=
  LI_drawK (.c (0, .l) <| .c (2, .kp) <| .c (1, .f) <| .c (3, .f) <| .c (4, .p) <| .c (5, .p) <| .n) [1, 3] K hK (by kernel_rfl) (by kernel_rfl) (by kernel_rfl) H
theorem dr25_0 (m : Nat) {Q : Exit → List AV → AH → Prop} {a : List AV} {h : AH} {id : Nat} (H : AX Try.prog m h [(⟨some 4, .load 37 (.tmp 2), none⟩, true),
  (⟨some 6, .load 3 (.tmp 1), none⟩, true),
  (⟨some 5, .call { callee := .value (.func 27), args := #[.tmp 4], argTypes := #[37] }, none⟩, false),
  (⟨some 7, .call { callee := .value (.func 26), args := #[.tmp 5, .tmp 6], argTypes := #[25, 3] }, none⟩, false),
  (⟨some 8, .unOp .not 4 (.tmp 7), none⟩, true),
  (⟨some 3, .assign (.tmp 8), none⟩, true)] (fun a' h' => Q .normal a' h') a h) : AI Try.prog (.raw (.region id rg25_0 true)) Q a h :=
  AI_draw [(0, true), (2, true), (1, false), (3, false), (4, true), (5, true)] m (by kernel_rfl) (by kernel_rfl) (by kernel_rfl) H

noncomputable def rg74_0 : Array Oper := rawAt Try.f74 0
/-- (*impl.Plan).many -/
noncomputable def c74 : IC :=
  (.seq
  (.reg [
    ⟨some 2, .assign (.const (.int .i64 0)), none⟩])
  (.seq
  (.raw (.region 1 rg74_0 true))
  .ret))
theorem hd74 : Try.f74.body.map dec = some c74 := by kernel_rfl
theorem e74 {R : AV → AH → Prop} {h : AH} (x0 : AV) (H : h.wf → AI Try.prog c74 (RetQ Try.prog [.tmp 2] R) [x0, un, un, un, un, un, un, un, un, un, un, un, un] h) : AC Try.prog 74 [x0] h R :=
  AC_of' (rs := [.tmp 2]) Try.func74 (by kernel_rfl) hd74 Try.ntmps74 rfl H
theorem dz74_0 {h0 : AH} {L : List It} {Q : Exit → List AV → List It → Prop} {a : List AV} {id : Nat} (H : LX Try.prog ⟨[], []⟩ h0 L L (.c (⟨some 3, .move (.tmp 0), none⟩, .p) <| .c (⟨some 4, .nilCheck (.tmp 3), none⟩, .p) <| .c (⟨some 5, .fieldAddr 27 (.tmp 4) 0, none⟩, .p) <| .c (⟨some 6, .load 3 (.tmp 5), none⟩, .l) <| .c (⟨some 7, .move (.tmp 0), none⟩, .p) <| .c (⟨some 8, .nilCheck (.tmp 7), none⟩, .p) <| .c (⟨some 9, .fieldAddr 27 (.tmp 8) 1, none⟩, .p) <| .c (⟨some 10, .load 24 (.tmp 9), none⟩, .l) <| .c (⟨some 11, .call { callee := .builtin .len, args := #[.tmp 10], argTypes := #[24] }, none⟩, .p) <| .c (⟨some 12, .binOp .add 3 (.tmp 6) (.tmp 11) 3, none⟩, .p) <| .c (⟨some 2, .assign (.tmp 12), none⟩, .p) <| .n) Q a) : LI Try.prog h0 L (.raw (.region id rg74_0 true)) Q a :=
  LI_draw (.c (0, .p) <| .c (1, .p) <| .c (2, .p) <| .c (3, .l) <| .c (4, .p) <| .c (5, .p) <| .c (6, .p) <| .c (7, .l) <| .c (8, .p) <| .c (9, .p) <| .c (10, .p) <| .n) [] (by kernel_rfl) (by kernel_rfl) (by kernel_rfl) H
theorem dr74_0 (m : Nat) {Q : Exit → List AV → AH → Prop} {a : List AV} {h : AH} {id : Nat} (H : AX Try.prog m h [(⟨some 3, .move (.tmp 0), none⟩, true),
  (⟨some 4, .nilCheck (.tmp 3), none⟩, true),
  (⟨some 5, .fieldAddr 27 (.tmp 4) 0, none⟩, true),
  (⟨some 6, .load 3 (.tmp 5), none⟩, true),
  (⟨some 7, .move (.tmp 0), none⟩, true),
  (⟨some 8, .nilCheck (.tmp 7), none⟩, true),
  (⟨some 9, .fieldAddr 27 (.tmp 8) 1, none⟩, true),
  (⟨some 10, .load 24 (.tmp 9), none⟩, true),
  (⟨some 11, .call { callee := .builtin .len, args := #[.tmp 10], argTypes := #[24] }, none⟩, true),
  (⟨some 12, .binOp .add 3 (.tmp 6) (.tmp 11) 3, none⟩, true),
  (⟨some 2, .assign (.tmp 12), none⟩, true)] (fun a' h' => Q .normal a' h') a h) : AI Try.prog (.raw (.region id rg74_0 true)) Q a h :=
  AI_draw [(0, true), (1, true), (2, true), (3, true), (4, true), (5, true), (6, true), (7, true), (8, true), (9, true), (10, true)] m (by kernel_rfl) (by kernel_rfl) (by kernel_rfl) H

/-- (*impl.Plan).formed$1 -/
def c73 : IC :=
  (.seq
  (.reg [
    ⟨some 3, .assign (.const (.bool false)), none⟩])
  (.seq
  (.reg [
    ⟨some 4, .move (.tmp 0), none⟩,
    ⟨some 5, .load 64 (.tmp 1), none⟩,
    ⟨some 6, .call { callee := .value (.func 74), args := #[.tmp 5], argTypes := #[64] }, none⟩,
    ⟨some 7, .binOp .sub 3 (.tmp 6) (.const (.int .i64 1)) 3, none⟩,
    ⟨some 8, .call { callee := .value (.func 42), args := #[.tmp 4, .const (.int .i64 0), .tmp 7], argTypes := #[3, 3, 3] }, none⟩,
    ⟨some 9, .unOp .not 4 (.tmp 8), none⟩,
    ⟨some 3, .assign (.tmp 9), none⟩])
  .ret))
theorem hd73 : Try.f73.body.map dec = some c73 := by kernel_rfl
theorem e73 {R : AV → AH → Prop} {h : AH} (x0 x1 : AV) (H : h.wf → AI Try.prog c73 (RetQ Try.prog [.tmp 3] R) [x0, x1, un, un, un, un, un, un, un, un] h) : AC Try.prog 73 [x0, x1] h R :=
  AC_of' (rs := [.tmp 3]) Try.func73 (by kernel_rfl) hd73 Try.ntmps73 rfl H

noncomputable def rg58_0 : Array Oper := rawAt Try.f58 0
-- NO ORDER
/-- (*impl.Plan).formed -/
noncomputable def c58 : IC :=
  (.seq
  (.reg [
    ⟨some 1, .box 64 (.tmp 0), none⟩,
    ⟨some 2, .assign (.const (.bool false)), none⟩])
  (.seq
  (.seq
  (.reg [
    ⟨some 5, .load 64 (.tmp 1), none⟩,
    ⟨some 6, .nilCheck (.tmp 5), none⟩,
    ⟨some 7, .fieldAddr 27 (.tmp 6) 0, none⟩,
    ⟨some 8, .load 3 (.tmp 7), none⟩,
    ⟨some 9, .call { callee := .value (.func 42), args := #[.tmp 8, .const (.int .i64 1), .const (.int .i64 6)], argTypes := #[3, 3, 3] }, none⟩,
    ⟨some 10, .unOp .not 4 (.tmp 9), none⟩,
    ⟨some 11, .move (.tmp 10), none⟩,
    ⟨some 12, .load 64 (.tmp 1), some (11, false)⟩,
    ⟨some 13, .nilCheck (.tmp 12), some (11, false)⟩,
    ⟨some 14, .fieldAddr 27 (.tmp 13) 1, some (11, false)⟩,
    ⟨some 15, .load 24 (.tmp 14), some (11, false)⟩,
    ⟨some 16, .call { callee := .builtin .len, args := #[.tmp 15], argTypes := #[24] }, some (11, false)⟩,
    ⟨some 17, .binOp .gtr 3 (.tmp 16) (.const (.int .i64 40)) 3, some (11, false)⟩,
    ⟨some 18, .pick (.tmp 11) (.const (.bool true)) (.tmp 17), none⟩,
    ⟨some 19, .move (.tmp 18), none⟩,
    ⟨some 20, .load 64 (.tmp 1), some (19, false)⟩,
    ⟨some 21, .nilCheck (.tmp 20), some (19, false)⟩,
    ⟨some 22, .fieldAddr 27 (.tmp 21) 2, some (19, false)⟩,
    ⟨some 23, .load 25 (.tmp 22), some (19, false)⟩,
    ⟨some 24, .call { callee := .builtin .len, args := #[.tmp 23], argTypes := #[25] }, some (19, false)⟩,
    ⟨some 25, .binOp .gtr 3 (.tmp 24) (.const (.int .i64 6)) 3, some (19, false)⟩,
    ⟨some 26, .pick (.tmp 19) (.const (.bool true)) (.tmp 25), none⟩])
  (.cond (.tmp 26)
    (.seq
    (.reg [
      ⟨some 2, .assign (.const (.bool false)), none⟩])
    .ret)
    .skip))
  (.seq
  (.seq
  (.reg [
    ⟨some 27, .load 64 (.tmp 1), none⟩,
    ⟨some 28, .nilCheck (.tmp 27), none⟩,
    ⟨some 29, .fieldAddr 27 (.tmp 28) 1, none⟩,
    ⟨some 30, .load 24 (.tmp 29), none⟩,
    ⟨some 31, .call { callee := .builtin .len, args := #[.tmp 30], argTypes := #[24] }, none⟩,
    ⟨some 32, .move (.const (.int .i64 0)), none⟩])
  (.block 0
  (.loop
    (.seq
    (.reg [
      ⟨some 33, .binOp .lss 3 (.tmp 32) (.tmp 31) 3, none⟩])
    (.seq
    (.cond (.tmp 33)
      .skip
      (.exit 0))
    (.seq
    (.block 1
    (.seq
    (.reg [
      ⟨some 34, .move (.tmp 32), none⟩,
      ⟨some 35, .indexAddr 24 (.tmp 30) (.tmp 32), none⟩,
      ⟨some 36, .load 70 (.tmp 35), none⟩,
      ⟨some 4, .alloc 70, none⟩,
      ⟨some 3, .assign (.tmp 34), none⟩,
      ⟨none, .store 70 (.tmp 4) (.tmp 36), none⟩])
    (.seq
    (.raw (.region 6 rg58_0 true))
    (.cond (.tmp 57)
      (.seq
      (.reg [
        ⟨some 2, .assign (.const (.bool false)), none⟩])
      .ret)
      .skip))))
    (.reg [
      ⟨some 58, .binOp .add 3 (.tmp 32) (.const (.int .i64 1)) 3, none⟩,
      ⟨some 32, .move (.tmp 58), none⟩])))))))
  (.seq
  (.reg [
    ⟨some 59, .load 64 (.tmp 1), none⟩,
    ⟨some 60, .nilCheck (.tmp 59), none⟩,
    ⟨some 61, .fieldAddr 27 (.tmp 60) 2, none⟩,
    ⟨some 62, .load 25 (.tmp 61), none⟩,
    ⟨some 63, .makeFunc (.func 73) #[] #[.tmp 1], none⟩,
    ⟨some 64, .call { callee := .value (.func 40), args := #[.tmp 62, .tmp 63], argTypes := #[25, 62] }, none⟩,
    ⟨some 65, .unOp .not 4 (.tmp 64), none⟩,
    ⟨some 2, .assign (.tmp 65), none⟩])
  .ret))))
theorem hd58 : Try.f58.body.map dec = some c58 := by kernel_rfl
theorem e58 {R : AV → AH → Prop} {h : AH} (x0 : AV) (H : h.wf → AI Try.prog c58 (RetQ Try.prog [.tmp 2] R) [x0, un, un, un, un, un, un, un, un, un, un, un, un, un, un, un, un, un, un, un, un, un, un, un, un, un, un, un, un, un, un, un, un, un, un, un, un, un, un, un, un, un, un, un, un, un, un, un, un, un, un, un, un, un, un, un, un, un, un, un, un, un, un, un, un, un] h) : AC Try.prog 58 [x0] h R :=
  AC_of' (rs := [.tmp 2]) Try.func58 (by kernel_rfl) hd58 Try.ntmps58 rfl H
theorem dz58_0 {h0 : AH} {L : List It} {Q : Exit → List AV → List It → Prop} {a : List AV} {id : Nat} (H : LX Try.prog ⟨[], []⟩ h0 L L (.c (⟨some 37, .fieldAddr 70 (.tmp 4) 0, none⟩, .p) <| .c (⟨some 38, .load 3 (.tmp 37), none⟩, .l) <| .c (⟨some 39, .binOp .lss 3 (.tmp 38) (.const (.int .i64 0)) 3, none⟩, .p) <| .c (⟨some 40, .move (.tmp 39), none⟩, .p) <| .c (⟨some 41, .fieldAddr 70 (.tmp 4) 0, some (40, false)⟩, .p) <| .c (⟨some 42, .load 3 (.tmp 41), some (40, false)⟩, .l) <| .c (⟨some 43, .fieldAddr 70 (.tmp 4) 1, some (40, false)⟩, .p) <| .c (⟨some 44, .load 3 (.tmp 43), some (40, false)⟩, .l) <| .c (⟨some 45, .binOp .gtr 3 (.tmp 42) (.tmp 44) 3, some (40, false)⟩, .p) <| .c (⟨some 46, .pick (.tmp 40) (.const (.bool true)) (.tmp 45), none⟩, .p) <| .c (⟨some 47, .move (.tmp 46), none⟩, .p) <| .c (⟨some 48, .fieldAddr 70 (.tmp 4) 1, some (47, false)⟩, .p) <| .c (⟨some 49, .load 3 (.tmp 48), some (47, false)⟩, .l) <| .c (⟨some 50, .load 64 (.tmp 1), some (47, false)⟩, .l) <| .c (⟨some 51, .nilCheck (.tmp 50), some (47, false)⟩, .p) <| .c (⟨some 52, .fieldAddr 27 (.tmp 51) 0, some (47, false)⟩, .p) <| .c (⟨some 53, .load 3 (.tmp 52), some (47, false)⟩, .l) <| .c (⟨some 54, .move (.tmp 3), some (47, false)⟩, .p) <| .c (⟨some 55, .binOp .add 3 (.tmp 53) (.tmp 54) 3, some (47, false)⟩, .p) <| .c (⟨some 56, .binOp .geq 3 (.tmp 49) (.tmp 55) 3, some (47, false)⟩, .p) <| .c (⟨some 57, .pick (.tmp 47) (.const (.bool true)) (.tmp 56), none⟩, .p) <| .n) Q a) : LI Try.prog h0 L (.raw (.region id rg58_0 true)) Q a :=
  LI_draw (.c (0, .p) <| .c (1, .l) <| .c (2, .p) <| .c (3, .p) <| .c (4, .p) <| .c (5, .l) <| .c (6, .p) <| .c (7, .l) <| .c (8, .p) <| .c (9, .p) <| .c (10, .p) <| .c (11, .p) <| .c (12, .l) <| .c (13, .l) <| .c (14, .p) <| .c (15, .p) <| .c (16, .l) <| .c (17, .p) <| .c (18, .p) <| .c (19, .p) <| .c (20, .p) <| .n) [] (by kernel_rfl) (by kernel_rfl) (by kernel_rfl) H

/-- slices.IndexFunc[[][]int,[]int] -/
def c75 : IC :=
  (.seq
  (.reg [
    ⟨some 4, .assign (.const (.int .i64 0)), none⟩])
  (.seq
  (.seq
  (.reg [
    ⟨some 6, .move (.tmp 0), none⟩,
    ⟨some 7, .call { callee := .builtin .len, args := #[.tmp 6], argTypes := #[33] }, none⟩,
    ⟨some 8, .move (.const (.int .i64 0)), none⟩])
  (.block 0
  (.loop
    (.seq
    (.reg [
      ⟨some 9, .binOp .lss 3 (.tmp 8) (.tmp 7) 3, none⟩])
    (.seq
    (.cond (.tmp 9)
      .skip
      (.exit 0))
    (.seq
    (.block 1
    (.seq
    (.reg [
      ⟨some 10, .move (.tmp 8), none⟩,
      ⟨some 5, .assign (.tmp 10), none⟩])
    (.seq
    (.reg [
      ⟨some 11, .move (.tmp 1), none⟩,
      ⟨some 12, .move (.tmp 0), none⟩,
      ⟨some 13, .move (.tmp 5), none⟩,
      ⟨some 14, .indexAddr 33 (.tmp 12) (.tmp 13), none⟩,
      ⟨some 15, .load 25 (.tmp 14), none⟩,
      ⟨some 16, .call { callee := .value (.tmp 11), args := #[.tmp 15], argTypes := #[25] }, none⟩])
    (.cond (.tmp 16)
      (.seq
      (.reg [
        ⟨some 17, .move (.tmp 5), none⟩,
        ⟨some 4, .assign (.tmp 17), none⟩])
      .ret)
      .skip))))
    (.reg [
      ⟨some 18, .binOp .add 3 (.tmp 8) (.const (.int .i64 1)) 3, none⟩,
      ⟨some 8, .move (.tmp 18), none⟩])))))))
  (.seq
  (.reg [
    ⟨some 4, .assign (.const (.int .i64 (-1))), none⟩])
  .ret)))
theorem hd75 : Try.f75.body.map dec = some c75 := by kernel_rfl
theorem e75 {R : AV → AH → Prop} {h : AH} (x0 x1 : AV) (H : h.wf → AI Try.prog c75 (RetQ Try.prog [.tmp 4] R) [x0, x1, un, un, un, un, un, un, un, un, un, un, un, un, un, un, un, un, un] h) : AC Try.prog 75 [x0, x1] h R :=
  AC_of' (rs := [.tmp 4]) Try.func75 (by kernel_rfl) hd75 Try.ntmps75 rfl H

/-- slices.ContainsFunc[[][]int,[]int] -/
def c59 : IC :=
  (.seq
  (.reg [
    ⟨some 4, .assign (.const (.bool false)), none⟩])
  (.seq
  (.reg [
    ⟨some 5, .move (.tmp 0), none⟩,
    ⟨some 6, .move (.tmp 1), none⟩,
    ⟨some 7, .call { callee := .value (.func 75), args := #[.tmp 5, .tmp 6], argTypes := #[33, 87] }, none⟩,
    ⟨some 8, .binOp .geq 3 (.tmp 7) (.const (.int .i64 0)) 3, none⟩,
    ⟨some 4, .assign (.tmp 8), none⟩])
  .ret))
theorem hd59 : Try.f59.body.map dec = some c59 := by kernel_rfl
theorem e59 {R : AV → AH → Prop} {h : AH} (x0 x1 : AV) (H : h.wf → AI Try.prog c59 (RetQ Try.prog [.tmp 4] R) [x0, x1, un, un, un, un, un, un, un] h) : AC Try.prog 59 [x0, x1] h R :=
  AC_of' (rs := [.tmp 4]) Try.func59 (by kernel_rfl) hd59 Try.ntmps59 rfl H

/-- (*impl.Plan).exponents -/
def c60 : IC :=
  (.seq
  (.reg [
    ⟨some 2, .assign (.const (.slice none 0 0)), none⟩])
  (.seq
  (.reg [
    ⟨some 11, .buildSlice 33 0 #[], none⟩,
    ⟨some 3, .assign (.tmp 11), none⟩])
  (.seq
  (.seq
  (.reg [
    ⟨some 12, .move (.tmp 0), none⟩,
    ⟨some 13, .nilCheck (.tmp 12), none⟩,
    ⟨some 14, .fieldAddr 27 (.tmp 13) 0, none⟩,
    ⟨some 15, .load 3 (.tmp 14), none⟩,
    ⟨some 16, .move (.const (.int .i64 0)), none⟩])
  (.block 0
  (.loop
    (.seq
    (.reg [
      ⟨some 17, .binOp .lss 3 (.tmp 16) (.tmp 15) 3, none⟩])
    (.seq
    (.cond (.tmp 17)
      .skip
      (.exit 0))
    (.seq
    (.block 1
    (.seq
    (.reg [
      ⟨some 18, .move (.tmp 16), none⟩,
      ⟨some 4, .assign (.tmp 18), none⟩])
    (.seq
    (.reg [
      ⟨some 19, .move (.tmp 0), none⟩,
      ⟨some 20, .nilCheck (.tmp 19), none⟩,
      ⟨some 21, .fieldAddr 27 (.tmp 20) 0, none⟩,
      ⟨some 22, .load 3 (.tmp 21), none⟩,
      ⟨some 23, .makeSlice 25 (.tmp 22) (.tmp 22), none⟩,
      ⟨some 5, .assign (.tmp 23), none⟩])
    (.seq
    (.reg [
      ⟨some 24, .move (.tmp 5), none⟩,
      ⟨some 25, .move (.tmp 4), none⟩,
      ⟨some 26, .indexAddr 25 (.tmp 24) (.tmp 25), none⟩,
      ⟨none, .store 3 (.tmp 26) (.const (.int .i64 1)), none⟩])
    (.reg [
      ⟨some 27, .move (.tmp 3), none⟩,
      ⟨some 28, .move (.tmp 5), none⟩,
      ⟨some 29, .buildSlice 33 1 #[(0, .tmp 28)], none⟩,
      ⟨some 30, .call { callee := .builtin .append, args := #[.tmp 27, .tmp 29], argTypes := #[33, 33] }, none⟩,
      ⟨some 3, .assign (.tmp 30), none⟩])))))
    (.reg [
      ⟨some 31, .binOp .add 3 (.tmp 16) (.const (.int .i64 1)) 3, none⟩,
      ⟨some 16, .move (.tmp 31), none⟩])))))))
  (.seq
  (.seq
  (.reg [
    ⟨some 32, .move (.tmp 0), none⟩,
    ⟨some 33, .nilCheck (.tmp 32), none⟩,
    ⟨some 34, .fieldAddr 27 (.tmp 33) 1, none⟩,
    ⟨some 35, .load 24 (.tmp 34), none⟩,
    ⟨some 36, .call { callee := .builtin .len, args := #[.tmp 35], argTypes := #[24] }, none⟩,
    ⟨some 37, .move (.const (.int .i64 0)), none⟩])
  (.block 2
  (.loop
    (.seq
    (.reg [
      ⟨some 38, .binOp .lss 3 (.tmp 37) (.tmp 36) 3, none⟩])
    (.seq
    (.cond (.tmp 38)
      .skip
      (.exit 2))
    (.seq
    (.block 3
    (.seq
    (.reg [
      ⟨some 39, .indexAddr 24 (.tmp 35) (.tmp 37), none⟩,
      ⟨some 40, .load 70 (.tmp 39), none⟩,
      ⟨some 7, .alloc 70, none⟩,
      ⟨none, .store 70 (.tmp 7) (.tmp 40), none⟩])
    (.seq
    (.reg [
      ⟨some 41, .buildSlice 25 0 #[], none⟩,
      ⟨some 8, .assign (.tmp 41), none⟩])
    (.seq
    (.seq
    (.reg [
      ⟨some 42, .move (.tmp 3), none⟩,
      ⟨some 43, .fieldAddr 70 (.tmp 7) 0, none⟩,
      ⟨some 44, .load 3 (.tmp 43), none⟩,
      ⟨some 45, .indexAddr 33 (.tmp 42) (.tmp 44), none⟩,
      ⟨some 46, .load 25 (.tmp 45), none⟩,
      ⟨some 47, .call { callee := .builtin .len, args := #[.tmp 46], argTypes := #[25] }, none⟩,
      ⟨some 48, .move (.const (.int .i64 0)), none⟩])
    (.block 4
    (.loop
      (.seq
      (.reg [
        ⟨some 49, .binOp .lss 3 (.tmp 48) (.tmp 47) 3, none⟩])
      (.seq
      (.cond (.tmp 49)
        .skip
        (.exit 4))
      (.seq
      (.block 5
      (.seq
      (.reg [
        ⟨some 50, .move (.tmp 48), none⟩,
        ⟨some 51, .indexAddr 25 (.tmp 46) (.tmp 48), none⟩,
        ⟨some 52, .load 3 (.tmp 51), none⟩,
        ⟨some 9, .assign (.tmp 50), none⟩,
        ⟨some 10, .assign (.tmp 52), none⟩])
      (.reg [
        ⟨some 53, .move (.tmp 8), none⟩,
        ⟨some 54, .move (.tmp 10), none⟩,
        ⟨some 55, .move (.tmp 3), none⟩,
        ⟨some 56, .fieldAddr 70 (.tmp 7) 1, none⟩,
        ⟨some 57, .load 3 (.tmp 56), none⟩,
        ⟨some 58, .indexAddr 33 (.tmp 55) (.tmp 57), none⟩,
        ⟨some 59, .load 25 (.tmp 58), none⟩,
        ⟨some 60, .move (.tmp 9), none⟩,
        ⟨some 61, .indexAddr 25 (.tmp 59) (.tmp 60), none⟩,
        ⟨some 62, .load 3 (.tmp 61), none⟩,
        ⟨some 63, .binOp .add 3 (.tmp 54) (.tmp 62) 3, none⟩,
        ⟨some 64, .call { callee := .builtin .min, args := #[.tmp 63, .const (.int .i64 1000001)], argTypes := #[3, 3] }, none⟩,
        ⟨some 65, .buildSlice 25 1 #[(0, .tmp 64)], none⟩,
        ⟨some 66, .call { callee := .builtin .append, args := #[.tmp 53, .tmp 65], argTypes := #[25, 25] }, none⟩,
        ⟨some 8, .assign (.tmp 66), none⟩])))
      (.reg [
        ⟨some 67, .binOp .add 3 (.tmp 48) (.const (.int .i64 1)) 3, none⟩,
        ⟨some 48, .move (.tmp 67), none⟩])))))))
    (.reg [
      ⟨some 68, .move (.tmp 3), none⟩,
      ⟨some 69, .move (.tmp 8), none⟩,
      ⟨some 70, .buildSlice 33 1 #[(0, .tmp 69)], none⟩,
      ⟨some 71, .call { callee := .builtin .append, args := #[.tmp 68, .tmp 70], argTypes := #[33, 33] }, none⟩,
      ⟨some 3, .assign (.tmp 71), none⟩])))))
    (.reg [
      ⟨some 72, .binOp .add 3 (.tmp 37) (.const (.int .i64 1)) 3, none⟩,
      ⟨some 37, .move (.tmp 72), none⟩])))))))
  (.seq
  (.reg [
    ⟨some 73, .move (.tmp 3), none⟩,
    ⟨some 2, .assign (.tmp 73), none⟩])
  .ret)))))
theorem hd60 : Try.f60.body.map dec = some c60 := by kernel_rfl
theorem e60 {R : AV → AH → Prop} {h : AH} (x0 : AV) (H : h.wf → AI Try.prog c60 (RetQ Try.prog [.tmp 2] R) [x0, un, un, un, un, un, un, un, un, un, un, un, un, un, un, un, un, un, un, un, un, un, un, un, un, un, un, un, un, un, un, un, un, un, un, un, un, un, un, un, un, un, un, un, un, un, un, un, un, un, un, un, un, un, un, un, un, un, un, un, un, un, un, un, un, un, un, un, un, un, un, un, un, un] h) : AC Try.prog 60 [x0] h R :=
  AC_of' (rs := [.tmp 2]) Try.func60 (by kernel_rfl) hd60 Try.ntmps60 rfl H

/-- slices.Max[[]int,int] -/
def c62 : IC :=
  (.seq
  (.reg [
    ⟨some 2, .assign (.const (.int .i64 0)), none⟩])
  (.seq
  (.seq
  (.reg [
    ⟨some 5, .move (.tmp 0), none⟩,
    ⟨some 6, .call { callee := .builtin .len, args := #[.tmp 5], argTypes := #[25] }, none⟩,
    ⟨some 7, .binOp .lss 3 (.tmp 6) (.const (.int .i64 1)) 3, none⟩])
  (.cond (.tmp 7)
    (.reg [
      ⟨some 8, .makeInterface 9 (.const (.string { data := #[115, 108, 105, 99, 101, 115, 46, 77, 97, 120, 58, 32, 101, 109, 112, 116, 121, 32, 108, 105, 115, 116] })), none⟩,
      ⟨none, .panic (.tmp 8), none⟩])
    .skip))
  (.seq
  (.reg [
    ⟨some 9, .move (.tmp 0), none⟩,
    ⟨some 10, .indexAddr 25 (.tmp 9) (.const (.int .i64 0)), none⟩,
    ⟨some 11, .load 3 (.tmp 10), none⟩,
    ⟨some 3, .assign (.tmp 11), none⟩])
  (.seq
  (.seq
  (.reg [
    ⟨some 4, .assign (.const (.int .i64 1)), none⟩])
  (.block 0
  (.loop
    (.seq
    (.seq
    (.reg [
      ⟨some 12, .move (.tmp 4), none⟩,
      ⟨some 13, .move (.tmp 0), none⟩,
      ⟨some 14, .call { callee := .builtin .len, args := #[.tmp 13], argTypes := #[25] }, none⟩,
      ⟨some 15, .binOp .lss 3 (.tmp 12) (.tmp 14) 3, none⟩])
    (.cond (.tmp 15)
      .skip
      (.exit 0)))
    (.seq
    (.block 1
    (.reg [
      ⟨some 18, .move (.tmp 3), none⟩,
      ⟨some 19, .move (.tmp 0), none⟩,
      ⟨some 20, .move (.tmp 4), none⟩,
      ⟨some 21, .indexAddr 25 (.tmp 19) (.tmp 20), none⟩,
      ⟨some 22, .load 3 (.tmp 21), none⟩,
      ⟨some 23, .call { callee := .builtin .max, args := #[.tmp 18, .tmp 22], argTypes := #[3, 3] }, none⟩,
      ⟨some 3, .assign (.tmp 23), none⟩]))
    (.reg [
      ⟨some 16, .move (.tmp 4), none⟩,
      ⟨some 17, .binOp .add 3 (.tmp 16) (.const (.int .i64 1)) 3, none⟩,
      ⟨some 4, .assign (.tmp 17), none⟩]))))))
  (.seq
  (.reg [
    ⟨some 24, .move (.tmp 3), none⟩,
    ⟨some 2, .assign (.tmp 24), none⟩])
  .ret)))))
theorem hd62 : Try.f62.body.map dec = some c62 := by kernel_rfl
theorem e62 {R : AV → AH → Prop} {h : AH} (x0 : AV) (H : h.wf → AI Try.prog c62 (RetQ Try.prog [.tmp 2] R) [x0, un, un, un, un, un, un, un, un, un, un, un, un, un, un, un, un, un, un, un, un, un, un, un, un] h) : AC Try.prog 62 [x0] h R :=
  AC_of' (rs := [.tmp 2]) Try.func62 (by kernel_rfl) hd62 Try.ntmps62 rfl H

/-- impl.IsPlan$1 -/
def c61 : IC :=
  (.seq
  (.reg [
    ⟨some 2, .assign (.const (.bool false)), none⟩])
  (.seq
  (.reg [
    ⟨some 3, .move (.tmp 0), none⟩,
    ⟨some 4, .call { callee := .value (.func 62), args := #[.tmp 3], argTypes := #[25] }, none⟩,
    ⟨some 5, .binOp .gtr 3 (.tmp 4) (.const (.int .i64 1000000)) 3, none⟩,
    ⟨some 2, .assign (.tmp 5), none⟩])
  .ret))
theorem hd61 : Try.f61.body.map dec = some c61 := by kernel_rfl
theorem e61 {R : AV → AH → Prop} {h : AH} (x0 : AV) (H : h.wf → AI Try.prog c61 (RetQ Try.prog [.tmp 2] R) [x0, un, un, un, un, un] h) : AC Try.prog 61 [x0] h R :=
  AC_of' (rs := [.tmp 2]) Try.func61 (by kernel_rfl) hd61 Try.ntmps61 rfl H

/-- impl.IsPlan -/
def c28 : IC :=
  (.seq
  (.reg [
    ⟨some 1, .box 27 (.tmp 0), none⟩,
    ⟨some 2, .assign (.const (.bool false)), none⟩])
  (.seq
  (.reg [
    ⟨some 3, .call { callee := .value (.func 58), args := #[.tmp 1], argTypes := #[27] }, none⟩,
    ⟨some 4, .move (.tmp 3), none⟩,
    ⟨some 5, .call { callee := .value (.func 60), args := #[.tmp 1], argTypes := #[27] }, some (4, true)⟩,
    ⟨some 6, .call { callee := .value (.func 59), args := #[.tmp 5, .func 61], argTypes := #[33, 87] }, some (4, true)⟩,
    ⟨some 7, .unOp .not 4 (.tmp 6), some (4, true)⟩,
    ⟨some 8, .pick (.tmp 4) (.tmp 7) (.const (.bool false)), none⟩,
    ⟨some 2, .assign (.tmp 8), none⟩])
  .ret))
theorem hd28 : Try.f28.body.map dec = some c28 := by kernel_rfl
theorem e28 {R : AV → AH → Prop} {h : AH} (x0 : AV) (H : h.wf → AI Try.prog c28 (RetQ Try.prog [.tmp 2] R) [x0, un, un, un, un, un, un, un, un] h) : AC Try.prog 28 [x0] h R :=
  AC_of' (rs := [.tmp 2]) Try.func28 (by kernel_rfl) hd28 Try.ntmps28 rfl H

/-- impl.outputsOf[impl.Matrix] -/
def c30 : IC :=
  (.seq
  (.reg [
    ⟨some 4, .assign (.const (.slice none 0 0)), none⟩])
  (.seq
  (.reg [
    ⟨some 8, .buildSlice 28 0 #[], none⟩,
    ⟨some 5, .assign (.tmp 8), none⟩])
  (.seq
  (.seq
  (.reg [
    ⟨some 9, .move (.tmp 0), none⟩,
    ⟨some 10, .nilCheck (.tmp 9), none⟩,
    ⟨some 11, .fieldAddr 27 (.tmp 10) 2, none⟩,
    ⟨some 12, .load 25 (.tmp 11), none⟩,
    ⟨some 13, .call { callee := .builtin .len, args := #[.tmp 12], argTypes := #[25] }, none⟩,
    ⟨some 14, .move (.const (.int .i64 0)), none⟩])
  (.block 0
  (.loop
    (.seq
    (.reg [
      ⟨some 15, .binOp .lss 3 (.tmp 14) (.tmp 13) 3, none⟩])
    (.seq
    (.cond (.tmp 15)
      .skip
      (.exit 0))
    (.seq
    (.block 1
    (.seq
    (.reg [
      ⟨some 16, .indexAddr 25 (.tmp 12) (.tmp 14), none⟩,
      ⟨some 17, .load 3 (.tmp 16), none⟩,
      ⟨some 7, .assign (.tmp 17), none⟩])
    (.reg [
      ⟨some 18, .move (.tmp 5), none⟩,
      ⟨some 19, .move (.tmp 1), none⟩,
      ⟨some 20, .move (.tmp 7), none⟩,
      ⟨some 21, .indexAddr 28 (.tmp 19) (.tmp 20), none⟩,
      ⟨some 22, .load 37 (.tmp 21), none⟩,
      ⟨some 23, .buildSlice 28 1 #[(0, .tmp 22)], none⟩,
      ⟨some 24, .call { callee := .builtin .append, args := #[.tmp 18, .tmp 23], argTypes := #[28, 28] }, none⟩,
      ⟨some 5, .assign (.tmp 24), none⟩])))
    (.reg [
      ⟨some 25, .binOp .add 3 (.tmp 14) (.const (.int .i64 1)) 3, none⟩,
      ⟨some 14, .move (.tmp 25), none⟩])))))))
  (.seq
  (.reg [
    ⟨some 26, .move (.tmp 5), none⟩,
    ⟨some 4, .assign (.tmp 26), none⟩])
  .ret))))
theorem hd30 : Try.f30.body.map dec = some c30 := by kernel_rfl
theorem e30 {R : AV → AH → Prop} {h : AH} (x0 x1 : AV) (H : h.wf → AI Try.prog c30 (RetQ Try.prog [.tmp 4] R) [x0, x1, un, un, un, un, un, un, un, un, un, un, un, un, un, un, un, un, un, un, un, un, un, un, un, un, un] h) : AC Try.prog 30 [x0, x1] h R :=
  AC_of' (rs := [.tmp 4]) Try.func30 (by kernel_rfl) hd30 Try.ntmps30 rfl H

/-- slices.Clone[[]impl.Matrix,impl.Matrix] -/
def c63 : IC :=
  (.seq
  (.reg [
    ⟨some 2, .assign (.const (.slice none 0 0)), none⟩])
  (.seq
  (.seq
  (.reg [
    ⟨some 3, .move (.tmp 0), none⟩,
    ⟨some 4, .binOp .eql 28 (.tmp 3) (.const (.slice none 0 0)) 28, none⟩])
  (.cond (.tmp 4)
    (.seq
    (.reg [
      ⟨some 2, .assign (.const (.slice none 0 0)), none⟩])
    .ret)
    .skip))
  (.seq
  (.reg [
    ⟨some 5, .buildSlice 28 0 #[], none⟩,
    ⟨some 6, .move (.tmp 0), none⟩,
    ⟨some 7, .call { callee := .builtin .append, args := #[.tmp 5, .tmp 6], argTypes := #[28, 28] }, none⟩,
    ⟨some 2, .assign (.tmp 7), none⟩])
  .ret)))
theorem hd63 : Try.f63.body.map dec = some c63 := by kernel_rfl
theorem e63 {R : AV → AH → Prop} {h : AH} (x0 : AV) (H : h.wf → AI Try.prog c63 (RetQ Try.prog [.tmp 2] R) [x0, un, un, un, un, un, un, un] h) : AC Try.prog 63 [x0] h R :=
  AC_of' (rs := [.tmp 2]) Try.func63 (by kernel_rfl) hd63 Try.ntmps63 rfl H

noncomputable def rg31_0 : Array Oper := rawAt Try.f31 0
/-- impl.run[impl.Matrix] -/
noncomputable def c31 : IC :=
  (.seq
  (.reg [
    ⟨some 6, .assign (.const (.slice none 0 0)), none⟩])
  (.seq
  (.reg [
    ⟨some 10, .move (.tmp 1), none⟩,
    ⟨some 11, .call { callee := .value (.func 63), args := #[.tmp 10], argTypes := #[28] }, none⟩,
    ⟨some 7, .assign (.tmp 11), none⟩])
  (.seq
  (.seq
  (.reg [
    ⟨some 12, .move (.tmp 0), none⟩,
    ⟨some 13, .nilCheck (.tmp 12), none⟩,
    ⟨some 14, .fieldAddr 27 (.tmp 13) 1, none⟩,
    ⟨some 15, .load 24 (.tmp 14), none⟩,
    ⟨some 16, .call { callee := .builtin .len, args := #[.tmp 15], argTypes := #[24] }, none⟩,
    ⟨some 17, .move (.const (.int .i64 0)), none⟩])
  (.block 0
  (.loop
    (.seq
    (.reg [
      ⟨some 18, .binOp .lss 3 (.tmp 17) (.tmp 16) 3, none⟩])
    (.seq
    (.cond (.tmp 18)
      .skip
      (.exit 0))
    (.seq
    (.block 1
    (.seq
    (.reg [
      ⟨some 19, .indexAddr 24 (.tmp 15) (.tmp 17), none⟩,
      ⟨some 20, .load 70 (.tmp 19), none⟩,
      ⟨some 9, .alloc 70, none⟩,
      ⟨none, .store 70 (.tmp 9) (.tmp 20), none⟩])
    (.raw (.region 5 rg31_0 true))))
    (.reg [
      ⟨some 36, .binOp .add 3 (.tmp 17) (.const (.int .i64 1)) 3, none⟩,
      ⟨some 17, .move (.tmp 36), none⟩])))))))
  (.seq
  (.reg [
    ⟨some 37, .move (.tmp 7), none⟩,
    ⟨some 6, .assign (.tmp 37), none⟩])
  .ret))))
theorem hd31 : Try.f31.body.map dec = some c31 := by kernel_rfl
theorem e31 {R : AV → AH → Prop} {h : AH} (x0 x1 x2 : AV) (H : h.wf → AI Try.prog c31 (RetQ Try.prog [.tmp 6] R) [x0, x1, x2, un, un, un, un, un, un, un, un, un, un, un, un, un, un, un, un, un, un, un, un, un, un, un, un, un, un, un, un, un, un, un, un, un, un, un] h) : AC Try.prog 31 [x0, x1, x2] h R :=
  AC_of' (rs := [.tmp 6]) Try.func31 (by kernel_rfl) hd31 Try.ntmps31 rfl H
theorem dz31_0 {h0 : AH} {L : List It} {Q : Exit → List AV → List It → Prop} {a : List AV} {id : Nat} (H : LX Try.prog ⟨[14], []⟩ h0 L L (.c (⟨some 21, .move (.tmp 7), none⟩, .p) <| .c (⟨some 22, .move (.tmp 2), none⟩, .p) <| .c (⟨some 23, .move (.tmp 7), none⟩, .p) <| .c (⟨some 24, .fieldAddr 70 (.tmp 9) 0, none⟩, .p) <| .c (⟨some 25, .load 3 (.tmp 24), none⟩, .l) <| .c (⟨some 26, .indexAddr 28 (.tmp 23) (.tmp 25), none⟩, .p) <| .c (⟨some 27, .load 37 (.tmp 26), none⟩, .l) <| .c (⟨some 28, .move (.tmp 7), none⟩, .p) <| .c (⟨some 29, .fieldAddr 70 (.tmp 9) 1, none⟩, .p) <| .c (⟨some 30, .load 3 (.tmp 29), none⟩, .l) <| .c (⟨some 31, .indexAddr 28 (.tmp 28) (.tmp 30), none⟩, .p) <| .c (⟨some 32, .load 37 (.tmp 31), none⟩, .l) <| .c (⟨some 33, .call { callee := .value (.tmp 22), args := #[.tmp 27, .tmp 32], argTypes := #[37, 37] }, none⟩, .e) <| .c (⟨some 34, .buildSlice 28 1 #[(0, .tmp 33)], none⟩, .e) <| .c (⟨some 35, .call { callee := .builtin .append, args := #[.tmp 21, .tmp 34], argTypes := #[28, 28] }, none⟩, .f) <| .c (⟨some 7, .assign (.tmp 35), none⟩, .p) <| .n) Q a) : LI Try.prog h0 L (.raw (.region id rg31_0 true)) Q a :=
  LI_draw (.c (0, .p) <| .c (1, .p) <| .c (2, .p) <| .c (3, .p) <| .c (4, .l) <| .c (5, .p) <| .c (6, .l) <| .c (7, .p) <| .c (8, .p) <| .c (9, .l) <| .c (10, .p) <| .c (11, .l) <| .c (12, .e) <| .c (13, .e) <| .c (14, .f) <| .c (15, .p) <| .n) [14] (by kernel_rfl) (by kernel_rfl) (by kernel_rfl) H
theorem dy31_0 {h0 : AH} {L : List It} {Q : Exit → List AV → List It → Prop} {a : List AV} {id : Nat} (H : LX Try.prog ⟨[12, 13, 14], []⟩ h0 L L (.c (⟨some 21, .move (.tmp 7), none⟩, .p) <| .c (⟨some 22, .move (.tmp 2), none⟩, .p) <| .c (⟨some 23, .move (.tmp 7), none⟩, .p) <| .c (⟨some 24, .fieldAddr 70 (.tmp 9) 0, none⟩, .p) <| .c (⟨some 25, .load 3 (.tmp 24), none⟩, .l) <| .c (⟨some 26, .indexAddr 28 (.tmp 23) (.tmp 25), none⟩, .p) <| .c (⟨some 27, .load 37 (.tmp 26), none⟩, .l) <| .c (⟨some 28, .move (.tmp 7), none⟩, .p) <| .c (⟨some 29, .fieldAddr 70 (.tmp 9) 1, none⟩, .p) <| .c (⟨some 30, .load 3 (.tmp 29), none⟩, .l) <| .c (⟨some 31, .indexAddr 28 (.tmp 28) (.tmp 30), none⟩, .p) <| .c (⟨some 32, .load 37 (.tmp 31), none⟩, .l) <| .c (⟨some 33, .call { callee := .value (.tmp 22), args := #[.tmp 27, .tmp 32], argTypes := #[37, 37] }, none⟩, .f) <| .c (⟨some 34, .buildSlice 28 1 #[(0, .tmp 33)], none⟩, .f) <| .c (⟨some 35, .call { callee := .builtin .append, args := #[.tmp 21, .tmp 34], argTypes := #[28, 28] }, none⟩, .f) <| .c (⟨some 7, .assign (.tmp 35), none⟩, .p) <| .n) Q a) : LI Try.prog h0 L (.raw (.region id rg31_0 true)) Q a :=
  LI_draw (.c (0, .p) <| .c (1, .p) <| .c (2, .p) <| .c (3, .p) <| .c (4, .l) <| .c (5, .p) <| .c (6, .l) <| .c (7, .p) <| .c (8, .p) <| .c (9, .l) <| .c (10, .p) <| .c (11, .l) <| .c (12, .f) <| .c (13, .f) <| .c (14, .f) <| .c (15, .p) <| .n) [12, 13, 14] (by kernel_rfl) (by kernel_rfl) (by kernel_rfl) H
theorem dr31_0 (m : Nat) {Q : Exit → List AV → AH → Prop} {a : List AV} {h : AH} {id : Nat} (H : AX Try.prog m h [(⟨some 21, .move (.tmp 7), none⟩, true),
  (⟨some 22, .move (.tmp 2), none⟩, true),
  (⟨some 23, .move (.tmp 7), none⟩, true),
  (⟨some 24, .fieldAddr 70 (.tmp 9) 0, none⟩, true),
  (⟨some 25, .load 3 (.tmp 24), none⟩, true),
  (⟨some 26, .indexAddr 28 (.tmp 23) (.tmp 25), none⟩, true),
  (⟨some 27, .load 37 (.tmp 26), none⟩, true),
  (⟨some 28, .move (.tmp 7), none⟩, true),
  (⟨some 29, .fieldAddr 70 (.tmp 9) 1, none⟩, true),
  (⟨some 30, .load 3 (.tmp 29), none⟩, true),
  (⟨some 31, .indexAddr 28 (.tmp 28) (.tmp 30), none⟩, true),
  (⟨some 32, .load 37 (.tmp 31), none⟩, true),
  (⟨some 33, .call { callee := .value (.tmp 22), args := #[.tmp 27, .tmp 32], argTypes := #[37, 37] }, none⟩, false),
  (⟨some 34, .buildSlice 28 1 #[(0, .tmp 33)], none⟩, false),
  (⟨some 35, .call { callee := .builtin .append, args := #[.tmp 21, .tmp 34], argTypes := #[28, 28] }, none⟩, false),
  (⟨some 7, .assign (.tmp 35), none⟩, true)] (fun a' h' => Q .normal a' h') a h) : AI Try.prog (.raw (.region id rg31_0 true)) Q a h :=
  AI_draw [(0, true), (1, true), (2, true), (3, true), (4, true), (5, true), (6, true), (7, true), (8, true), (9, true), (10, true), (11, true), (12, false), (13, false), (14, false), (15, true)] m (by kernel_rfl) (by kernel_rfl) (by kernel_rfl) H

noncomputable def rg64_0 : Array Oper := rawAt Try.f64 0
-- NO ORDER
/-- impl.matrixTimes$1 -/
noncomputable def c64 : IC :=
  (.seq
  (.reg [
    ⟨some 3, .box 37 (.tmp 0), none⟩,
    ⟨some 4, .box 37 (.tmp 1), none⟩,
    ⟨some 5, .alloc 37, none⟩])
  (.seq
  (.raw (.region 1 rg64_0 true))
  .ret))
theorem hd64 : Try.f64.body.map dec = some c64 := by kernel_rfl
theorem e64 {R : AV → AH → Prop} {h : AH} (x0 x1 x2 : AV) (H : h.wf → AI Try.prog c64 (RetQ Try.prog [.cell 5 37] R) [x0, x1, x2, un, un, un, un, un, un, un, un, un, un, un, un, un, un, un, un, un, un, un, un, un, un, un, un, un, un, un, un, un, un, un, un, un, un, un, un, un, un, un, un, un, un, un, un, un, un, un, un, un, un, un, un, un, un, un, un] h) : AC Try.prog 64 [x0, x1, x2] h R :=
  AC_of' (rs := [.cell 5 37]) Try.func64 (by kernel_rfl) hd64 Try.ntmps64 rfl H
theorem dz64_0 {h0 : AH} {L : List It} {Q : Exit → List AV → List It → Prop} {a : List AV} {id : Nat} (H : LX Try.prog ⟨[53], []⟩ h0 L L (.c (⟨some 6, .fieldAddr 37 (.tmp 3) 0, none⟩, .p) <| .c (⟨some 7, .load 3 (.tmp 6), none⟩, .l) <| .c (⟨some 8, .fieldAddr 37 (.tmp 4) 0, none⟩, .p) <| .c (⟨some 9, .load 3 (.tmp 8), none⟩, .l) <| .c (⟨some 10, .binOp .mul 3 (.tmp 7) (.tmp 9) 3, none⟩, .p) <| .c (⟨some 11, .fieldAddr 37 (.tmp 3) 1, none⟩, .p) <| .c (⟨some 12, .load 3 (.tmp 11), none⟩, .l) <| .c (⟨some 13, .fieldAddr 37 (.tmp 4) 2, none⟩, .p) <| .c (⟨some 14, .load 3 (.tmp 13), none⟩, .l) <| .c (⟨some 15, .binOp .mul 3 (.tmp 12) (.tmp 14) 3, none⟩, .p) <| .c (⟨some 16, .binOp .add 3 (.tmp 10) (.tmp 15) 3, none⟩, .p) <| .c (⟨some 17, .load 3 (.tmp 2), none⟩, .l) <| .c (⟨some 18, .binOp .rem 3 (.tmp 16) (.tmp 17) 3, none⟩, .p) <| .c (⟨some 19, .fieldAddr 37 (.tmp 3) 0, none⟩, .p) <| .c (⟨some 20, .load 3 (.tmp 19), none⟩, .l) <| .c (⟨some 21, .fieldAddr 37 (.tmp 4) 1, none⟩, .p) <| .c (⟨some 22, .load 3 (.tmp 21), none⟩, .l) <| .c (⟨some 23, .binOp .mul 3 (.tmp 20) (.tmp 22) 3, none⟩, .p) <| .c (⟨some 24, .fieldAddr 37 (.tmp 3) 1, none⟩, .p) <| .c (⟨some 25, .load 3 (.tmp 24), none⟩, .l) <| .c (⟨some 26, .fieldAddr 37 (.tmp 4) 3, none⟩, .p) <| .c (⟨some 27, .load 3 (.tmp 26), none⟩, .l) <| .c (⟨some 28, .binOp .mul 3 (.tmp 25) (.tmp 27) 3, none⟩, .p) <| .c (⟨some 29, .binOp .add 3 (.tmp 23) (.tmp 28) 3, none⟩, .p) <| .c (⟨some 30, .load 3 (.tmp 2), none⟩, .l) <| .c (⟨some 31, .binOp .rem 3 (.tmp 29) (.tmp 30) 3, none⟩, .p) <| .c (⟨some 32, .fieldAddr 37 (.tmp 3) 2, none⟩, .p) <| .c (⟨some 33, .load 3 (.tmp 32), none⟩, .l) <| .c (⟨some 34, .fieldAddr 37 (.tmp 4) 0, none⟩, .p) <| .c (⟨some 35, .load 3 (.tmp 34), none⟩, .l) <| .c (⟨some 36, .binOp .mul 3 (.tmp 33) (.tmp 35) 3, none⟩, .p) <| .c (⟨some 37, .fieldAddr 37 (.tmp 3) 3, none⟩, .p) <| .c (⟨some 38, .load 3 (.tmp 37), none⟩, .l) <| .c (⟨some 39, .fieldAddr 37 (.tmp 4) 2, none⟩, .p) <| .c (⟨some 40, .load 3 (.tmp 39), none⟩, .l) <| .c (⟨some 41, .binOp .mul 3 (.tmp 38) (.tmp 40) 3, none⟩, .p) <| .c (⟨some 42, .binOp .add 3 (.tmp 36) (.tmp 41) 3, none⟩, .p) <| .c (⟨some 43, .load 3 (.tmp 2), none⟩, .l) <| .c (⟨some 44, .binOp .rem 3 (.tmp 42) (.tmp 43) 3, none⟩, .p) <| .c (⟨some 45, .fieldAddr 37 (.tmp 3) 2, none⟩, .p) <| .c (⟨some 46, .load 3 (.tmp 45), none⟩, .l) <| .c (⟨some 47, .fieldAddr 37 (.tmp 4) 1, none⟩, .p) <| .c (⟨some 48, .load 3 (.tmp 47), none⟩, .l) <| .c (⟨some 49, .binOp .mul 3 (.tmp 46) (.tmp 48) 3, none⟩, .p) <| .c (⟨some 50, .fieldAddr 37 (.tmp 3) 3, none⟩, .p) <| .c (⟨some 51, .load 3 (.tmp 50), none⟩, .l) <| .c (⟨some 52, .fieldAddr 37 (.tmp 4) 3, none⟩, .p) <| .c (⟨some 53, .load 3 (.tmp 52), none⟩, .l) <| .c (⟨some 54, .binOp .mul 3 (.tmp 51) (.tmp 53) 3, none⟩, .p) <| .c (⟨some 55, .binOp .add 3 (.tmp 49) (.tmp 54) 3, none⟩, .p) <| .c (⟨some 56, .load 3 (.tmp 2), none⟩, .l) <| .c (⟨some 57, .binOp .rem 3 (.tmp 55) (.tmp 56) 3, none⟩, .p) <| .c (⟨some 58, .build 37 #[(0, .tmp 18), (1, .tmp 31), (2, .tmp 44), (3, .tmp 57)], none⟩, .p) <| .c (⟨none, .store 37 (.tmp 5) (.tmp 58), none⟩, .f) <| .n) Q a) : LI Try.prog h0 L (.raw (.region id rg64_0 true)) Q a :=
  LI_draw (.c (0, .p) <| .c (1, .l) <| .c (2, .p) <| .c (3, .l) <| .c (4, .p) <| .c (5, .p) <| .c (6, .l) <| .c (7, .p) <| .c (8, .l) <| .c (9, .p) <| .c (10, .p) <| .c (11, .l) <| .c (12, .p) <| .c (13, .p) <| .c (14, .l) <| .c (15, .p) <| .c (16, .l) <| .c (17, .p) <| .c (18, .p) <| .c (19, .l) <| .c (20, .p) <| .c (21, .l) <| .c (22, .p) <| .c (23, .p) <| .c (24, .l) <| .c (25, .p) <| .c (26, .p) <| .c (27, .l) <| .c (28, .p) <| .c (29, .l) <| .c (30, .p) <| .c (31, .p) <| .c (32, .l) <| .c (33, .p) <| .c (34, .l) <| .c (35, .p) <| .c (36, .p) <| .c (37, .l) <| .c (38, .p) <| .c (39, .p) <| .c (40, .l) <| .c (41, .p) <| .c (42, .l) <| .c (43, .p) <| .c (44, .p) <| .c (45, .l) <| .c (46, .p) <| .c (47, .l) <| .c (48, .p) <| .c (49, .p) <| .c (50, .l) <| .c (51, .p) <| .c (52, .p) <| .c (53, .f) <| .n) [53] (by kernel_rfl) (by kernel_rfl) (by kernel_rfl) H

/-- impl.matrixTimes -/
def c32 : IC :=
  (.seq
  (.reg [
    ⟨some 1, .box 3 (.tmp 0), none⟩,
    ⟨some 2, .assign (.const .nilFunc), none⟩])
  (.seq
  (.reg [
    ⟨some 3, .makeFunc (.func 64) #[] #[.tmp 1], none⟩,
    ⟨some 2, .assign (.tmp 3), none⟩])
  .ret))
theorem hd32 : Try.f32.body.map dec = some c32 := by kernel_rfl
theorem e32 {R : AV → AH → Prop} {h : AH} (x0 : AV) (H : h.wf → AI Try.prog c32 (RetQ Try.prog [.tmp 2] R) [x0, un, un, un] h) : AC Try.prog 32 [x0] h R :=
  AC_of' (rs := [.tmp 2]) Try.func32 (by kernel_rfl) hd32 Try.ntmps32 rfl H

/-- impl.RunMatrices -/
def c7 : IC :=
  (.seq
  (.reg [
    ⟨some 3, .box 27 (.tmp 0), none⟩,
    ⟨some 4, .box 3 (.tmp 1), none⟩,
    ⟨some 6, .assign (.const (.slice none 0 0)), none⟩,
    ⟨some 7, .assign (.const (.bool false)), none⟩])
  (.seq
  (.reg [
    ⟨some 9, .move (.tmp 2), none⟩,
    ⟨some 10, .makeFunc (.func 25) #[] #[.tmp 4], none⟩,
    ⟨some 11, .call { callee := .value (.func 24), args := #[.tmp 9, .tmp 10], argTypes := #[28, 60] }, none⟩,
    ⟨some 8, .assign (.tmp 11), none⟩])
  (.seq
  (.seq
  (.reg [
    ⟨some 12, .load 27 (.tmp 3), none⟩,
    ⟨some 13, .call { callee := .value (.func 28), args := #[.tmp 12], argTypes := #[27] }, none⟩,
    ⟨some 14, .unOp .not 4 (.tmp 13), none⟩,
    ⟨some 15, .move (.tmp 14), none⟩,
    ⟨some 16, .load 3 (.tmp 4), some (15, false)⟩,
    ⟨some 17, .call { callee := .value (.func 29), args := #[.tmp 16], argTypes := #[3] }, some (15, false)⟩,
    ⟨some 18, .unOp .not 4 (.tmp 17), some (15, false)⟩,
    ⟨some 19, .pick (.tmp 15) (.const (.bool true)) (.tmp 18), none⟩,
    ⟨some 20, .move (.tmp 19), none⟩,
    ⟨some 21, .move (.tmp 2), some (20, false)⟩,
    ⟨some 22, .call { callee := .builtin .len, args := #[.tmp 21], argTypes := #[28] }, some (20, false)⟩,
    ⟨some 23, .fieldAddr 27 (.tmp 3) 0, some (20, false)⟩,
    ⟨some 24, .load 3 (.tmp 23), some (20, false)⟩,
    ⟨some 25, .binOp .neq 3 (.tmp 22) (.tmp 24) 3, some (20, false)⟩,
    ⟨some 26, .pick (.tmp 20) (.const (.bool true)) (.tmp 25), none⟩,
    ⟨some 27, .move (.tmp 26), none⟩,
    ⟨some 28, .move (.tmp 8), some (27, false)⟩,
    ⟨some 29, .pick (.tmp 27) (.const (.bool true)) (.tmp 28), none⟩])
  (.cond (.tmp 29)
    (.seq
    (.reg [
      ⟨some 6, .assign (.const (.slice none 0 0)), none⟩,
      ⟨some 7, .assign (.const (.bool false)), none⟩])
    .ret)
    .skip))
  (.seq
  (.reg [
    ⟨some 30, .move (.tmp 2), none⟩,
    ⟨some 31, .load 3 (.tmp 4), none⟩,
    ⟨some 32, .call { callee := .value (.func 32), args := #[.tmp 31], argTypes := #[3] }, none⟩,
    ⟨some 33, .call { callee := .value (.func 31), args := #[.tmp 3, .tmp 30, .tmp 32], argTypes := #[64, 28, 66] }, none⟩,
    ⟨some 34, .call { callee := .value (.func 30), args := #[.tmp 3, .tmp 33], argTypes := #[64, 28] }, none⟩,
    ⟨some 6, .assign (.tmp 34), none⟩,
    ⟨some 7, .assign (.const (.bool true)), none⟩])
  .ret))))
theorem hd7 : Try.f7.body.map dec = some c7 := by kernel_rfl
theorem e7 {R : AV → AH → Prop} {h : AH} (x0 x1 x2 : AV) (H : h.wf → AI Try.prog c7 (RetQ Try.prog [.tmp 6, .tmp 7] R) [x0, x1, x2, un, un, un, un, un, un, un, un, un, un, un, un, un, un, un, un, un, un, un, un, un, un, un, un, un, un, un, un, un, un, un, un] h) : AC Try.prog 7 [x0, x1, x2] h R :=
  AC_of' (rs := [.tmp 6, .tmp 7]) Try.func7 (by kernel_rfl) hd7 Try.ntmps7 rfl H

/-- spec.l1In -/
def c65 : IC :=
  (.seq
  (.reg [
    ⟨some 6, .assign (.const (.bool false)), none⟩])
  (.seq
  (.reg [
    ⟨some 7, .move (.tmp 0), none⟩,
    ⟨some 8, .move (.tmp 1), none⟩,
    ⟨some 9, .binOp .geq 3 (.tmp 7) (.tmp 8) 3, none⟩,
    ⟨some 10, .move (.tmp 9), none⟩,
    ⟨some 11, .move (.tmp 0), some (10, true)⟩,
    ⟨some 12, .move (.tmp 2), some (10, true)⟩,
    ⟨some 13, .binOp .leq 3 (.tmp 11) (.tmp 12) 3, some (10, true)⟩,
    ⟨some 14, .pick (.tmp 10) (.tmp 13) (.const (.bool false)), none⟩,
    ⟨some 6, .assign (.tmp 14), none⟩])
  .ret))
theorem hd65 : Try.f65.body.map dec = some c65 := by kernel_rfl
theorem e65 {R : AV → AH → Prop} {h : AH} (x0 x1 x2 : AV) (H : h.wf → AI Try.prog c65 (RetQ Try.prog [.tmp 6] R) [x0, x1, x2, un, un, un, un, un, un, un, un, un, un, un, un] h) : AC Try.prog 65 [x0, x1, x2] h R :=
  AC_of' (rs := [.tmp 6]) Try.func65 (by kernel_rfl) hd65 Try.ntmps65 rfl H

noncomputable def rg76_0 : Array Oper := rawAt Try.f76 0
/-- spec.plSum -/
noncomputable def c76 : IC :=
  (.seq
  (.reg [
    ⟨some 4, .assign (.const (.slice none 0 0)), none⟩])
  (.seq
  (.reg [
    ⟨some 5, .assign (.const (.slice none 0 0)), none⟩])
  (.seq
  (.seq
  (.reg [
    ⟨some 7, .move (.tmp 0), none⟩,
    ⟨some 8, .call { callee := .builtin .len, args := #[.tmp 7], argTypes := #[25] }, none⟩,
    ⟨some 9, .move (.const (.int .i64 0)), none⟩])
  (.block 0
  (.loop
    (.seq
    (.reg [
      ⟨some 10, .binOp .lss 3 (.tmp 9) (.tmp 8) 3, none⟩])
    (.seq
    (.cond (.tmp 10)
      .skip
      (.exit 0))
    (.seq
    (.block 1
    (.seq
    (.reg [
      ⟨some 11, .move (.tmp 9), none⟩,
      ⟨some 6, .assign (.tmp 11), none⟩])
    (.raw (.region 5 rg76_0 true))))
    (.reg [
      ⟨some 25, .binOp .add 3 (.tmp 9) (.const (.int .i64 1)) 3, none⟩,
      ⟨some 9, .move (.tmp 25), none⟩])))))))
  (.seq
  (.reg [
    ⟨some 26, .move (.tmp 5), none⟩,
    ⟨some 4, .assign (.tmp 26), none⟩])
  .ret))))
theorem hd76 : Try.f76.body.map dec = some c76 := by kernel_rfl
theorem e76 {R : AV → AH → Prop} {h : AH} (x0 x1 : AV) (H : h.wf → AI Try.prog c76 (RetQ Try.prog [.tmp 4] R) [x0, x1, un, un, un, un, un, un, un, un, un, un, un, un, un, un, un, un, un, un, un, un, un, un, un, un, un] h) : AC Try.prog 76 [x0, x1] h R :=
  AC_of' (rs := [.tmp 4]) Try.func76 (by kernel_rfl) hd76 Try.ntmps76 rfl H
theorem dz76_0 {h0 : AH} {L : List It} {Q : Exit → List AV → List It → Prop} {a : List AV} {id : Nat} (H : LX Try.prog ⟨[12], []⟩ h0 L L (.c (⟨some 12, .move (.tmp 5), none⟩, .p) <| .c (⟨some 13, .move (.tmp 0), none⟩, .p) <| .c (⟨some 14, .move (.tmp 6), none⟩, .p) <| .c (⟨some 15, .indexAddr 25 (.tmp 13) (.tmp 14), none⟩, .p) <| .c (⟨some 16, .load 3 (.tmp 15), none⟩, .l) <| .c (⟨some 17, .move (.tmp 1), none⟩, .p) <| .c (⟨some 18, .move (.tmp 6), none⟩, .p) <| .c (⟨some 19, .indexAddr 25 (.tmp 17) (.tmp 18), none⟩, .p) <| .c (⟨some 20, .load 3 (.tmp 19), none⟩, .l) <| .c (⟨some 21, .binOp .add 3 (.tmp 16) (.tmp 20) 3, none⟩, .p) <| .c (⟨some 22, .call { callee := .value (.func 22), args := #[.tmp 21, .const (.int .i64 1000001)], argTypes := #[3, 3] }, none⟩, .e) <| .c (⟨some 23, .buildSlice 25 1 #[(0, .tmp 22)], none⟩, .e) <| .c (⟨some 24, .call { callee := .builtin .append, args := #[.tmp 12, .tmp 23], argTypes := #[25, 25] }, none⟩, .f) <| .c (⟨some 5, .assign (.tmp 24), none⟩, .p) <| .n) Q a) : LI Try.prog h0 L (.raw (.region id rg76_0 true)) Q a :=
  LI_draw (.c (0, .p) <| .c (1, .p) <| .c (2, .p) <| .c (3, .p) <| .c (4, .l) <| .c (5, .p) <| .c (6, .p) <| .c (7, .p) <| .c (8, .l) <| .c (9, .p) <| .c (10, .e) <| .c (11, .e) <| .c (12, .f) <| .c (13, .p) <| .n) [12] (by kernel_rfl) (by kernel_rfl) (by kernel_rfl) H
theorem dy76_0 {h0 : AH} {L : List It} {Q : Exit → List AV → List It → Prop} {a : List AV} {id : Nat} (H : LX Try.prog ⟨[10, 11, 12], []⟩ h0 L L (.c (⟨some 12, .move (.tmp 5), none⟩, .p) <| .c (⟨some 13, .move (.tmp 0), none⟩, .p) <| .c (⟨some 14, .move (.tmp 6), none⟩, .p) <| .c (⟨some 15, .indexAddr 25 (.tmp 13) (.tmp 14), none⟩, .p) <| .c (⟨some 16, .load 3 (.tmp 15), none⟩, .l) <| .c (⟨some 17, .move (.tmp 1), none⟩, .p) <| .c (⟨some 18, .move (.tmp 6), none⟩, .p) <| .c (⟨some 19, .indexAddr 25 (.tmp 17) (.tmp 18), none⟩, .p) <| .c (⟨some 20, .load 3 (.tmp 19), none⟩, .l) <| .c (⟨some 21, .binOp .add 3 (.tmp 16) (.tmp 20) 3, none⟩, .p) <| .c (⟨some 22, .call { callee := .value (.func 22), args := #[.tmp 21, .const (.int .i64 1000001)], argTypes := #[3, 3] }, none⟩, .f) <| .c (⟨some 23, .buildSlice 25 1 #[(0, .tmp 22)], none⟩, .f) <| .c (⟨some 24, .call { callee := .builtin .append, args := #[.tmp 12, .tmp 23], argTypes := #[25, 25] }, none⟩, .f) <| .c (⟨some 5, .assign (.tmp 24), none⟩, .p) <| .n) Q a) : LI Try.prog h0 L (.raw (.region id rg76_0 true)) Q a :=
  LI_draw (.c (0, .p) <| .c (1, .p) <| .c (2, .p) <| .c (3, .p) <| .c (4, .l) <| .c (5, .p) <| .c (6, .p) <| .c (7, .p) <| .c (8, .l) <| .c (9, .p) <| .c (10, .f) <| .c (11, .f) <| .c (12, .f) <| .c (13, .p) <| .n) [10, 11, 12] (by kernel_rfl) (by kernel_rfl) (by kernel_rfl) H
theorem dr76_0 (m : Nat) {Q : Exit → List AV → AH → Prop} {a : List AV} {h : AH} {id : Nat} (H : AX Try.prog m h [(⟨some 12, .move (.tmp 5), none⟩, true),
  (⟨some 13, .move (.tmp 0), none⟩, true),
  (⟨some 14, .move (.tmp 6), none⟩, true),
  (⟨some 15, .indexAddr 25 (.tmp 13) (.tmp 14), none⟩, true),
  (⟨some 16, .load 3 (.tmp 15), none⟩, true),
  (⟨some 17, .move (.tmp 1), none⟩, true),
  (⟨some 18, .move (.tmp 6), none⟩, true),
  (⟨some 19, .indexAddr 25 (.tmp 17) (.tmp 18), none⟩, true),
  (⟨some 20, .load 3 (.tmp 19), none⟩, true),
  (⟨some 21, .binOp .add 3 (.tmp 16) (.tmp 20) 3, none⟩, true),
  (⟨some 22, .call { callee := .value (.func 22), args := #[.tmp 21, .const (.int .i64 1000001)], argTypes := #[3, 3] }, none⟩, false),
  (⟨some 23, .buildSlice 25 1 #[(0, .tmp 22)], none⟩, false),
  (⟨some 24, .call { callee := .builtin .append, args := #[.tmp 12, .tmp 23], argTypes := #[25, 25] }, none⟩, false),
  (⟨some 5, .assign (.tmp 24), none⟩, true)] (fun a' h' => Q .normal a' h') a h) : AI Try.prog (.raw (.region id rg76_0 true)) Q a h :=
  AI_draw [(0, true), (1, true), (2, true), (3, true), (4, true), (5, true), (6, true), (7, true), (8, true), (9, true), (10, false), (11, false), (12, false), (13, true)] m (by kernel_rfl) (by kernel_rfl) (by kernel_rfl) H

noncomputable def rg66_0 : Array Oper := rawAt Try.f66 0
/-- spec.plExponents -/
noncomputable def c66 : IC :=
  (.seq
  (.reg [
    ⟨some 1, .box 27 (.tmp 0), none⟩,
    ⟨some 2, .assign (.const (.slice none 0 0)), none⟩])
  (.seq
  (.reg [
    ⟨some 3, .assign (.const (.slice none 0 0)), none⟩])
  (.seq
  (.seq
  (.reg [
    ⟨some 4, .assign (.const (.int .i64 0)), none⟩])
  (.block 0
  (.loop
    (.seq
    (.seq
    (.reg [
      ⟨some 8, .move (.tmp 4), none⟩,
      ⟨some 9, .fieldAddr 27 (.tmp 1) 0, none⟩,
      ⟨some 10, .load 3 (.tmp 9), none⟩,
      ⟨some 11, .binOp .lss 3 (.tmp 8) (.tmp 10) 3, none⟩])
    (.cond (.tmp 11)
      .skip
      (.exit 0)))
    (.seq
    (.block 1
    (.seq
    (.reg [
      ⟨some 14, .fieldAddr 27 (.tmp 1) 0, none⟩,
      ⟨some 15, .load 3 (.tmp 14), none⟩,
      ⟨some 16, .makeSlice 25 (.tmp 15) (.tmp 15), none⟩,
      ⟨some 5, .assign (.tmp 16), none⟩])
    (.seq
    (.reg [
      ⟨some 17, .move (.tmp 5), none⟩,
      ⟨some 18, .move (.tmp 4), none⟩,
      ⟨some 19, .indexAddr 25 (.tmp 17) (.tmp 18), none⟩,
      ⟨none, .store 3 (.tmp 19) (.const (.int .i64 1)), none⟩])
    (.reg [
      ⟨some 20, .move (.tmp 3), none⟩,
      ⟨some 21, .move (.tmp 5), none⟩,
      ⟨some 22, .buildSlice 33 1 #[(0, .tmp 21)], none⟩,
      ⟨some 23, .call { callee := .builtin .append, args := #[.tmp 20, .tmp 22], argTypes := #[33, 33] }, none⟩,
      ⟨some 3, .assign (.tmp 23), none⟩]))))
    (.reg [
      ⟨some 12, .move (.tmp 4), none⟩,
      ⟨some 13, .binOp .add 3 (.tmp 12) (.const (.int .i64 1)) 3, none⟩,
      ⟨some 4, .assign (.tmp 13), none⟩]))))))
  (.seq
  (.seq
  (.reg [
    ⟨some 24, .fieldAddr 27 (.tmp 1) 1, none⟩,
    ⟨some 25, .load 24 (.tmp 24), none⟩,
    ⟨some 26, .call { callee := .builtin .len, args := #[.tmp 25], argTypes := #[24] }, none⟩,
    ⟨some 27, .move (.const (.int .i64 0)), none⟩])
  (.block 2
  (.loop
    (.seq
    (.reg [
      ⟨some 28, .binOp .lss 3 (.tmp 27) (.tmp 26) 3, none⟩])
    (.seq
    (.cond (.tmp 28)
      .skip
      (.exit 2))
    (.seq
    (.block 3
    (.seq
    (.reg [
      ⟨some 29, .indexAddr 24 (.tmp 25) (.tmp 27), none⟩,
      ⟨some 30, .load 70 (.tmp 29), none⟩,
      ⟨some 7, .alloc 70, none⟩,
      ⟨none, .store 70 (.tmp 7) (.tmp 30), none⟩])
    (.raw (.region 11 rg66_0 true))))
    (.reg [
      ⟨some 45, .binOp .add 3 (.tmp 27) (.const (.int .i64 1)) 3, none⟩,
      ⟨some 27, .move (.tmp 45), none⟩])))))))
  (.seq
  (.reg [
    ⟨some 46, .move (.tmp 3), none⟩,
    ⟨some 2, .assign (.tmp 46), none⟩])
  .ret)))))
theorem hd66 : Try.f66.body.map dec = some c66 := by kernel_rfl
theorem e66 {R : AV → AH → Prop} {h : AH} (x0 : AV) (H : h.wf → AI Try.prog c66 (RetQ Try.prog [.tmp 2] R) [x0, un, un, un, un, un, un, un, un, un, un, un, un, un, un, un, un, un, un, un, un, un, un, un, un, un, un, un, un, un, un, un, un, un, un, un, un, un, un, un, un, un, un, un, un, un, un] h) : AC Try.prog 66 [x0] h R :=
  AC_of' (rs := [.tmp 2]) Try.func66 (by kernel_rfl) hd66 Try.ntmps66 rfl H
theorem dz66_0 {h0 : AH} {L : List It} {Q : Exit → List AV → List It → Prop} {a : List AV} {id : Nat} (H : LX Try.prog ⟨[13], []⟩ h0 L L (.c (⟨some 31, .move (.tmp 3), none⟩, .p) <| .c (⟨some 32, .move (.tmp 3), none⟩, .p) <| .c (⟨some 33, .fieldAddr 70 (.tmp 7) 0, none⟩, .p) <| .c (⟨some 34, .load 3 (.tmp 33), none⟩, .l) <| .c (⟨some 35, .indexAddr 33 (.tmp 32) (.tmp 34), none⟩, .p) <| .c (⟨some 36, .load 25 (.tmp 35), none⟩, .l) <| .c (⟨some 37, .move (.tmp 3), none⟩, .p) <| .c (⟨some 38, .fieldAddr 70 (.tmp 7) 1, none⟩, .p) <| .c (⟨some 39, .load 3 (.tmp 38), none⟩, .l) <| .c (⟨some 40, .indexAddr 33 (.tmp 37) (.tmp 39), none⟩, .p) <| .c (⟨some 41, .load 25 (.tmp 40), none⟩, .l) <| .c (⟨some 42, .call { callee := .value (.func 76), args := #[.tmp 36, .tmp 41], argTypes := #[25, 25] }, none⟩, .e) <| .c (⟨some 43, .buildSlice 33 1 #[(0, .tmp 42)], none⟩, .e) <| .c (⟨some 44, .call { callee := .builtin .append, args := #[.tmp 31, .tmp 43], argTypes := #[33, 33] }, none⟩, .f) <| .c (⟨some 3, .assign (.tmp 44), none⟩, .p) <| .n) Q a) : LI Try.prog h0 L (.raw (.region id rg66_0 true)) Q a :=
  LI_draw (.c (0, .p) <| .c (1, .p) <| .c (2, .p) <| .c (3, .l) <| .c (4, .p) <| .c (5, .l) <| .c (6, .p) <| .c (7, .p) <| .c (8, .l) <| .c (9, .p) <| .c (10, .l) <| .c (11, .e) <| .c (12, .e) <| .c (13, .f) <| .c (14, .p) <| .n) [13] (by kernel_rfl) (by kernel_rfl) (by kernel_rfl) H
theorem dy66_0 {h0 : AH} {L : List It} {Q : Exit → List AV → List It → Prop} {a : List AV} {id : Nat} (H : LX Try.prog ⟨[11, 12, 13], []⟩ h0 L L (.c (⟨some 31, .move (.tmp 3), none⟩, .p) <| .c (⟨some 32, .move (.tmp 3), none⟩, .p) <| .c (⟨some 33, .fieldAddr 70 (.tmp 7) 0, none⟩, .p) <| .c (⟨some 34, .load 3 (.tmp 33), none⟩, .l) <| .c (⟨some 35, .indexAddr 33 (.tmp 32) (.tmp 34), none⟩, .p) <| .c (⟨some 36, .load 25 (.tmp 35), none⟩, .l) <| .c (⟨some 37, .move (.tmp 3), none⟩, .p) <| .c (⟨some 38, .fieldAddr 70 (.tmp 7) 1, none⟩, .p) <| .c (⟨some 39, .load 3 (.tmp 38), none⟩, .l) <| .c (⟨some 40, .indexAddr 33 (.tmp 37) (.tmp 39), none⟩, .p) <| .c (⟨some 41, .load 25 (.tmp 40), none⟩, .l) <| .c (⟨some 42, .call { callee := .value (.func 76), args := #[.tmp 36, .tmp 41], argTypes := #[25, 25] }, none⟩, .f) <| .c (⟨some 43, .buildSlice 33 1 #[(0, .tmp 42)], none⟩, .f) <| .c (⟨some 44, .call { callee := .builtin .append, args := #[.tmp 31, .tmp 43], argTypes := #[33, 33] }, none⟩, .f) <| .c (⟨some 3, .assign (.tmp 44), none⟩, .p) <| .n) Q a) : LI Try.prog h0 L (.raw (.region id rg66_0 true)) Q a :=
  LI_draw (.c (0, .p) <| .c (1, .p) <| .c (2, .p) <| .c (3, .l) <| .c (4, .p) <| .c (5, .l) <| .c (6, .p) <| .c (7, .p) <| .c (8, .l) <| .c (9, .p) <| .c (10, .l) <| .c (11, .f) <| .c (12, .f) <| .c (13, .f) <| .c (14, .p) <| .n) [11, 12, 13] (by kernel_rfl) (by kernel_rfl) (by kernel_rfl) H
theorem dr66_0 (m : Nat) {Q : Exit → List AV → AH → Prop} {a : List AV} {h : AH} {id : Nat} (H : AX Try.prog m h [(⟨some 31, .move (.tmp 3), none⟩, true),
  (⟨some 32, .move (.tmp 3), none⟩, true),
  (⟨some 33, .fieldAddr 70 (.tmp 7) 0, none⟩, true),
  (⟨some 34, .load 3 (.tmp 33), none⟩, true),
  (⟨some 35, .indexAddr 33 (.tmp 32) (.tmp 34), none⟩, true),
  (⟨some 36, .load 25 (.tmp 35), none⟩, true),
  (⟨some 37, .move (.tmp 3), none⟩, true),
  (⟨some 38, .fieldAddr 70 (.tmp 7) 1, none⟩, true),
  (⟨some 39, .load 3 (.tmp 38), none⟩, true),
  (⟨some 40, .indexAddr 33 (.tmp 37) (.tmp 39), none⟩, true),
  (⟨some 41, .load 25 (.tmp 40), none⟩, true),
  (⟨some 42, .call { callee := .value (.func 76), args := #[.tmp 36, .tmp 41], argTypes := #[25, 25] }, none⟩, false),
  (⟨some 43, .buildSlice 33 1 #[(0, .tmp 42)], none⟩, false),
  (⟨some 44, .call { callee := .builtin .append, args := #[.tmp 31, .tmp 43], argTypes := #[33, 33] }, none⟩, false),
  (⟨some 3, .assign (.tmp 44), none⟩, true)] (fun a' h' => Q .normal a' h') a h) : AI Try.prog (.raw (.region id rg66_0 true)) Q a h :=
  AI_draw [(0, true), (1, true), (2, true), (3, true), (4, true), (5, true), (6, true), (7, true), (8, true), (9, true), (10, true), (11, false), (12, false), (13, false), (14, true)] m (by kernel_rfl) (by kernel_rfl) (by kernel_rfl) H

/-- spec.l1All -/
def c67 : IC :=
  (.seq
  (.reg [
    ⟨some 6, .assign (.const (.bool false)), none⟩])
  (.seq
  (.seq
  (.reg [
    ⟨some 9, .move (.tmp 0), none⟩,
    ⟨some 10, .call { callee := .builtin .len, args := #[.tmp 9], argTypes := #[25] }, none⟩,
    ⟨some 11, .move (.const (.int .i64 0)), none⟩])
  (.block 0
  (.loop
    (.seq
    (.reg [
      ⟨some 12, .binOp .lss 3 (.tmp 11) (.tmp 10) 3, none⟩])
    (.seq
    (.cond (.tmp 12)
      .skip
      (.exit 0))
    (.seq
    (.block 1
    (.seq
    (.reg [
      ⟨some 13, .indexAddr 25 (.tmp 9) (.tmp 11), none⟩,
      ⟨some 14, .load 3 (.tmp 13), none⟩,
      ⟨some 8, .assign (.tmp 14), none⟩])
    (.seq
    (.reg [
      ⟨some 15, .move (.tmp 8), none⟩,
      ⟨some 16, .move (.tmp 1), none⟩,
      ⟨some 17, .move (.tmp 2), none⟩,
      ⟨some 18, .call { callee := .value (.func 65), args := #[.tmp 15, .tmp 16, .tmp 17], argTypes := #[3, 3, 3] }, none⟩,
      ⟨some 19, .unOp .not 4 (.tmp 18), none⟩])
    (.cond (.tmp 19)
      (.seq
      (.reg [
        ⟨some 6, .assign (.const (.bool false)), none⟩])
      .ret)
      .skip))))
    (.reg [
      ⟨some 20, .binOp .add 3 (.tmp 11) (.const (.int .i64 1)) 3, none⟩,
      ⟨some 11, .move (.tmp 20), none⟩])))))))
  (.seq
  (.reg [
    ⟨some 6, .assign (.const (.bool true)), none⟩])
  .ret)))
theorem hd67 : Try.f67.body.map dec = some c67 := by kernel_rfl
theorem e67 {R : AV → AH → Prop} {h : AH} (x0 x1 x2 : AV) (H : h.wf → AI Try.prog c67 (RetQ Try.prog [.tmp 6] R) [x0, x1, x2, un, un, un, un, un, un, un, un, un, un, un, un, un, un, un, un, un, un] h) : AC Try.prog 67 [x0, x1, x2] h R :=
  AC_of' (rs := [.tmp 6]) Try.func67 (by kernel_rfl) hd67 Try.ntmps67 rfl H

/-- spec.plGood -/
def c33 : IC :=
  (.seq
  (.reg [
    ⟨some 1, .box 27 (.tmp 0), none⟩,
    ⟨some 2, .assign (.const (.bool false)), none⟩])
  (.seq
  (.seq
  (.reg [
    ⟨some 7, .fieldAddr 27 (.tmp 1) 0, none⟩,
    ⟨some 8, .load 3 (.tmp 7), none⟩,
    ⟨some 9, .call { callee := .value (.func 65), args := #[.tmp 8, .const (.int .i64 1), .const (.int .i64 6)], argTypes := #[3, 3, 3] }, none⟩,
    ⟨some 10, .unOp .not 4 (.tmp 9), none⟩,
    ⟨some 11, .move (.tmp 10), none⟩,
    ⟨some 12, .fieldAddr 27 (.tmp 1) 1, some (11, false)⟩,
    ⟨some 13, .load 24 (.tmp 12), some (11, false)⟩,
    ⟨some 14, .call { callee := .builtin .len, args := #[.tmp 13], argTypes := #[24] }, some (11, false)⟩,
    ⟨some 15, .binOp .gtr 3 (.tmp 14) (.const (.int .i64 40)) 3, some (11, false)⟩,
    ⟨some 16, .pick (.tmp 11) (.const (.bool true)) (.tmp 15), none⟩,
    ⟨some 17, .move (.tmp 16), none⟩,
    ⟨some 18, .fieldAddr 27 (.tmp 1) 2, some (17, false)⟩,
    ⟨some 19, .load 25 (.tmp 18), some (17, false)⟩,
    ⟨some 20, .call { callee := .builtin .len, args := #[.tmp 19], argTypes := #[25] }, some (17, false)⟩,
    ⟨some 21, .binOp .gtr 3 (.tmp 20) (.const (.int .i64 6)) 3, some (17, false)⟩,
    ⟨some 22, .pick (.tmp 17) (.const (.bool true)) (.tmp 21), none⟩])
  (.cond (.tmp 22)
    (.seq
    (.reg [
      ⟨some 2, .assign (.const (.bool false)), none⟩])
    .ret)
    .skip))
  (.seq
  (.seq
  (.reg [
    ⟨some 23, .fieldAddr 27 (.tmp 1) 1, none⟩,
    ⟨some 24, .load 24 (.tmp 23), none⟩,
    ⟨some 25, .call { callee := .builtin .len, args := #[.tmp 24], argTypes := #[24] }, none⟩,
    ⟨some 26, .move (.const (.int .i64 0)), none⟩])
  (.block 0
  (.loop
    (.seq
    (.reg [
      ⟨some 27, .binOp .lss 3 (.tmp 26) (.tmp 25) 3, none⟩])
    (.seq
    (.cond (.tmp 27)
      .skip
      (.exit 0))
    (.seq
    (.block 1
    (.seq
    (.reg [
      ⟨some 28, .move (.tmp 26), none⟩,
      ⟨some 29, .indexAddr 24 (.tmp 24) (.tmp 26), none⟩,
      ⟨some 30, .load 70 (.tmp 29), none⟩,
      ⟨some 4, .alloc 70, none⟩,
      ⟨some 3, .assign (.tmp 28), none⟩,
      ⟨none, .store 70 (.tmp 4) (.tmp 30), none⟩])
    (.seq
    (.reg [
      ⟨some 31, .fieldAddr 70 (.tmp 4) 0, none⟩,
      ⟨some 32, .load 3 (.tmp 31), none⟩,
      ⟨some 33, .fieldAddr 70 (.tmp 4) 1, none⟩,
      ⟨some 34, .load 3 (.tmp 33), none⟩,
      ⟨some 35, .call { callee := .value (.func 65), args := #[.tmp 32, .const (.int .i64 0), .tmp 34], argTypes := #[3, 3, 3] }, none⟩,
      ⟨some 36, .unOp .not 4 (.tmp 35), none⟩,
      ⟨some 37, .move (.tmp 36), none⟩,
      ⟨some 38, .fieldAddr 70 (.tmp 4) 1, some (37, false)⟩,
      ⟨some 39, .load 3 (.tmp 38), some (37, false)⟩,
      ⟨some 40, .fieldAddr 27 (.tmp 1) 0, some (37, false)⟩,
      ⟨some 41, .load 3 (.tmp 40), some (37, false)⟩,
      ⟨some 42, .move (.tmp 3), some (37, false)⟩,
      ⟨some 43, .binOp .add 3 (.tmp 41) (.tmp 42) 3, some (37, false)⟩,
      ⟨some 44, .binOp .geq 3 (.tmp 39) (.tmp 43) 3, some (37, false)⟩,
      ⟨some 45, .pick (.tmp 37) (.const (.bool true)) (.tmp 44), none⟩])
    (.cond (.tmp 45)
      (.seq
      (.reg [
        ⟨some 2, .assign (.const (.bool false)), none⟩])
      .ret)
      .skip))))
    (.reg [
      ⟨some 46, .binOp .add 3 (.tmp 26) (.const (.int .i64 1)) 3, none⟩,
      ⟨some 26, .move (.tmp 46), none⟩])))))))
  (.seq
  (.seq
  (.reg [
    ⟨some 47, .load 27 (.tmp 1), none⟩,
    ⟨some 48, .call { callee := .value (.func 66), args := #[.tmp 47], argTypes := #[27] }, none⟩,
    ⟨some 49, .call { callee := .builtin .len, args := #[.tmp 48], argTypes := #[33] }, none⟩,
    ⟨some 50, .move (.const (.int .i64 0)), none⟩])
  (.block 2
  (.loop
    (.seq
    (.reg [
      ⟨some 51, .binOp .lss 3 (.tmp 50) (.tmp 49) 3, none⟩])
    (.seq
    (.cond (.tmp 51)
      .skip
      (.exit 2))
    (.seq
    (.block 3
    (.seq
    (.reg [
      ⟨some 52, .indexAddr 33 (.tmp 48) (.tmp 50), none⟩,
      ⟨some 53, .load 25 (.tmp 52), none⟩,
      ⟨some 6, .assign (.tmp 53), none⟩])
    (.seq
    (.reg [
      ⟨some 54, .move (.tmp 6), none⟩,
      ⟨some 55, .call { callee := .value (.func 67), args := #[.tmp 54, .const (.int .i64 0), .const (.int .i64 1000000)], argTypes := #[25, 3, 3] }, none⟩,
      ⟨some 56, .unOp .not 4 (.tmp 55), none⟩])
    (.cond (.tmp 56)
      (.seq
      (.reg [
        ⟨some 2, .assign (.const (.bool false)), none⟩])
      .ret)
      .skip))))
    (.reg [
      ⟨some 57, .binOp .add 3 (.tmp 50) (.const (.int .i64 1)) 3, none⟩,
      ⟨some 50, .move (.tmp 57), none⟩])))))))
  (.seq
  (.reg [
    ⟨some 58, .fieldAddr 27 (.tmp 1) 2, none⟩,
    ⟨some 59, .load 25 (.tmp 58), none⟩,
    ⟨some 60, .fieldAddr 27 (.tmp 1) 0, none⟩,
    ⟨some 61, .load 3 (.tmp 60), none⟩,
    ⟨some 62, .fieldAddr 27 (.tmp 1) 1, none⟩,
    ⟨some 63, .load 24 (.tmp 62), none⟩,
    ⟨some 64, .call { callee := .builtin .len, args := #[.tmp 63], argTypes := #[24] }, none⟩,
    ⟨some 65, .binOp .add 3 (.tmp 61) (.tmp 64) 3, none⟩,
    ⟨some 66, .binOp .sub 3 (.tmp 65) (.const (.int .i64 1)) 3, none⟩,
    ⟨some 67, .call { callee := .value (.func 67), args := #[.tmp 59, .const (.int .i64 0), .tmp 66], argTypes := #[25, 3, 3] }, none⟩,
    ⟨some 2, .assign (.tmp 67), none⟩])
  .ret)))))
theorem hd33 : Try.f33.body.map dec = some c33 := by kernel_rfl
theorem e33 {R : AV → AH → Prop} {h : AH} (x0 : AV) (H : h.wf → AI Try.prog c33 (RetQ Try.prog [.tmp 2] R) [x0, un, un, un, un, un, un, un, un, un, un, un, un, un, un, un, un, un, un, un, un, un, un, un, un, un, un, un, un, un, un, un, un, un, un, un, un, un, un, un, un, un, un, un, un, un, un, un, un, un, un, un, un, un, un, un, un, un, un, un, un, un, un, un, un, un, un, un] h) : AC Try.prog 33 [x0] h R :=
  AC_of' (rs := [.tmp 2]) Try.func33 (by kernel_rfl) hd33 Try.ntmps33 rfl H

/-- spec.moModulus -/
def c34 : IC :=
  (.seq
  (.reg [
    ⟨some 2, .assign (.const (.bool false)), none⟩])
  (.seq
  (.reg [
    ⟨some 3, .move (.tmp 0), none⟩,
    ⟨some 4, .call { callee := .value (.func 65), args := #[.tmp 3, .const (.int .i64 2), .const (.int .i64 10000)], argTypes := #[3, 3, 3] }, none⟩,
    ⟨some 2, .assign (.tmp 4), none⟩])
  .ret))
theorem hd34 : Try.f34.body.map dec = some c34 := by kernel_rfl
theorem e34 {R : AV → AH → Prop} {h : AH} (x0 : AV) (H : h.wf → AI Try.prog c34 (RetQ Try.prog [.tmp 2] R) [x0, un, un, un, un] h) : AC Try.prog 34 [x0] h R :=
  AC_of' (rs := [.tmp 2]) Try.func34 (by kernel_rfl) hd34 Try.ntmps34 rfl H

/-- spec.moMatrix -/
def c35 : IC :=
  (.seq
  (.reg [
    ⟨some 2, .box 37 (.tmp 0), none⟩,
    ⟨some 4, .assign (.const (.bool false)), none⟩])
  (.seq
  (.reg [
    ⟨some 5, .fieldAddr 37 (.tmp 2) 0, none⟩,
    ⟨some 6, .load 3 (.tmp 5), none⟩,
    ⟨some 7, .fieldAddr 37 (.tmp 2) 1, none⟩,
    ⟨some 8, .load 3 (.tmp 7), none⟩,
    ⟨some 9, .fieldAddr 37 (.tmp 2) 2, none⟩,
    ⟨some 10, .load 3 (.tmp 9), none⟩,
    ⟨some 11, .fieldAddr 37 (.tmp 2) 3, none⟩,
    ⟨some 12, .load 3 (.tmp 11), none⟩,
    ⟨some 13, .buildSlice 25 4 #[(0, .tmp 6), (1, .tmp 8), (2, .tmp 10), (3, .tmp 12)], none⟩,
    ⟨some 14, .move (.tmp 1), none⟩,
    ⟨some 15, .binOp .sub 3 (.tmp 14) (.const (.int .i64 1)) 3, none⟩,
    ⟨some 16, .call { callee := .value (.func 67), args := #[.tmp 13, .const (.int .i64 0), .tmp 15], argTypes := #[25, 3, 3] }, none⟩,
    ⟨some 4, .assign (.tmp 16), none⟩])
  .ret))
theorem hd35 : Try.f35.body.map dec = some c35 := by kernel_rfl
theorem e35 {R : AV → AH → Prop} {h : AH} (x0 x1 : AV) (H : h.wf → AI Try.prog c35 (RetQ Try.prog [.tmp 4] R) [x0, x1, un, un, un, un, un, un, un, un, un, un, un, un, un, un, un] h) : AC Try.prog 35 [x0, x1] h R :=
  AC_of' (rs := [.tmp 4]) Try.func35 (by kernel_rfl) hd35 Try.ntmps35 rfl H

noncomputable def rg36_0 : Array Oper := rawAt Try.f36 0
-- NO ORDER
/-- spec.moTimes -/
noncomputable def c36 : IC :=
  (.seq
  (.reg [
    ⟨some 3, .box 37 (.tmp 0), none⟩,
    ⟨some 4, .box 37 (.tmp 1), none⟩,
    ⟨some 6, .alloc 37, none⟩])
  (.seq
  (.raw (.region 1 rg36_0 true))
  .ret))
theorem hd36 : Try.f36.body.map dec = some c36 := by kernel_rfl
theorem e36 {R : AV → AH → Prop} {h : AH} (x0 x1 x2 : AV) (H : h.wf → AI Try.prog c36 (RetQ Try.prog [.cell 6 37] R) [x0, x1, x2, un, un, un, un, un, un, un, un, un, un, un, un, un, un, un, un, un, un, un, un, un, un, un, un, un, un, un, un, un, un, un, un, un, un, un, un, un, un, un, un, un, un, un, un, un, un, un, un, un, un, un, un, un, un, un, un, un] h) : AC Try.prog 36 [x0, x1, x2] h R :=
  AC_of' (rs := [.cell 6 37]) Try.func36 (by kernel_rfl) hd36 Try.ntmps36 rfl H
theorem dz36_0 {h0 : AH} {L : List It} {Q : Exit → List AV → List It → Prop} {a : List AV} {id : Nat} (H : LX Try.prog ⟨[53], []⟩ h0 L L (.c (⟨some 7, .fieldAddr 37 (.tmp 3) 0, none⟩, .p) <| .c (⟨some 8, .load 3 (.tmp 7), none⟩, .l) <| .c (⟨some 9, .fieldAddr 37 (.tmp 4) 0, none⟩, .p) <| .c (⟨some 10, .load 3 (.tmp 9), none⟩, .l) <| .c (⟨some 11, .binOp .mul 3 (.tmp 8) (.tmp 10) 3, none⟩, .p) <| .c (⟨some 12, .fieldAddr 37 (.tmp 3) 1, none⟩, .p) <| .c (⟨some 13, .load 3 (.tmp 12), none⟩, .l) <| .c (⟨some 14, .fieldAddr 37 (.tmp 4) 2, none⟩, .p) <| .c (⟨some 15, .load 3 (.tmp 14), none⟩, .l) <| .c (⟨some 16, .binOp .mul 3 (.tmp 13) (.tmp 15) 3, none⟩, .p) <| .c (⟨some 17, .binOp .add 3 (.tmp 11) (.tmp 16) 3, none⟩, .p) <| .c (⟨some 18, .move (.tmp 2), none⟩, .p) <| .c (⟨some 19, .binOp .rem 3 (.tmp 17) (.tmp 18) 3, none⟩, .p) <| .c (⟨some 20, .fieldAddr 37 (.tmp 3) 0, none⟩, .p) <| .c (⟨some 21, .load 3 (.tmp 20), none⟩, .l) <| .c (⟨some 22, .fieldAddr 37 (.tmp 4) 1, none⟩, .p) <| .c (⟨some 23, .load 3 (.tmp 22), none⟩, .l) <| .c (⟨some 24, .binOp .mul 3 (.tmp 21) (.tmp 23) 3, none⟩, .p) <| .c (⟨some 25, .fieldAddr 37 (.tmp 3) 1, none⟩, .p) <| .c (⟨some 26, .load 3 (.tmp 25), none⟩, .l) <| .c (⟨some 27, .fieldAddr 37 (.tmp 4) 3, none⟩, .p) <| .c (⟨some 28, .load 3 (.tmp 27), none⟩, .l) <| .c (⟨some 29, .binOp .mul 3 (.tmp 26) (.tmp 28) 3, none⟩, .p) <| .c (⟨some 30, .binOp .add 3 (.tmp 24) (.tmp 29) 3, none⟩, .p) <| .c (⟨some 31, .move (.tmp 2), none⟩, .p) <| .c (⟨some 32, .binOp .rem 3 (.tmp 30) (.tmp 31) 3, none⟩, .p) <| .c (⟨some 33, .fieldAddr 37 (.tmp 3) 2, none⟩, .p) <| .c (⟨some 34, .load 3 (.tmp 33), none⟩, .l) <| .c (⟨some 35, .fieldAddr 37 (.tmp 4) 0, none⟩, .p) <| .c (⟨some 36, .load 3 (.tmp 35), none⟩, .l) <| .c (⟨some 37, .binOp .mul 3 (.tmp 34) (.tmp 36) 3, none⟩, .p) <| .c (⟨some 38, .fieldAddr 37 (.tmp 3) 3, none⟩, .p) <| .c (⟨some 39, .load 3 (.tmp 38), none⟩, .l) <| .c (⟨some 40, .fieldAddr 37 (.tmp 4) 2, none⟩, .p) <| .c (⟨some 41, .load 3 (.tmp 40), none⟩, .l) <| .c (⟨some 42, .binOp .mul 3 (.tmp 39) (.tmp 41) 3, none⟩, .p) <| .c (⟨some 43, .binOp .add 3 (.tmp 37) (.tmp 42) 3, none⟩, .p) <| .c (⟨some 44, .move (.tmp 2), none⟩, .p) <| .c (⟨some 45, .binOp .rem 3 (.tmp 43) (.tmp 44) 3, none⟩, .p) <| .c (⟨some 46, .fieldAddr 37 (.tmp 3) 2, none⟩, .p) <| .c (⟨some 47, .load 3 (.tmp 46), none⟩, .l) <| .c (⟨some 48, .fieldAddr 37 (.tmp 4) 1, none⟩, .p) <| .c (⟨some 49, .load 3 (.tmp 48), none⟩, .l) <| .c (⟨some 50, .binOp .mul 3 (.tmp 47) (.tmp 49) 3, none⟩, .p) <| .c (⟨some 51, .fieldAddr 37 (.tmp 3) 3, none⟩, .p) <| .c (⟨some 52, .load 3 (.tmp 51), none⟩, .l) <| .c (⟨some 53, .fieldAddr 37 (.tmp 4) 3, none⟩, .p) <| .c (⟨some 54, .load 3 (.tmp 53), none⟩, .l) <| .c (⟨some 55, .binOp .mul 3 (.tmp 52) (.tmp 54) 3, none⟩, .p) <| .c (⟨some 56, .binOp .add 3 (.tmp 50) (.tmp 55) 3, none⟩, .p) <| .c (⟨some 57, .move (.tmp 2), none⟩, .p) <| .c (⟨some 58, .binOp .rem 3 (.tmp 56) (.tmp 57) 3, none⟩, .p) <| .c (⟨some 59, .build 37 #[(0, .tmp 19), (1, .tmp 32), (2, .tmp 45), (3, .tmp 58)], none⟩, .p) <| .c (⟨none, .store 37 (.tmp 6) (.tmp 59), none⟩, .f) <| .n) Q a) : LI Try.prog h0 L (.raw (.region id rg36_0 true)) Q a :=
  LI_draw (.c (0, .p) <| .c (1, .l) <| .c (2, .p) <| .c (3, .l) <| .c (4, .p) <| .c (5, .p) <| .c (6, .l) <| .c (7, .p) <| .c (8, .l) <| .c (9, .p) <| .c (10, .p) <| .c (11, .p) <| .c (12, .p) <| .c (13, .p) <| .c (14, .l) <| .c (15, .p) <| .c (16, .l) <| .c (17, .p) <| .c (18, .p) <| .c (19, .l) <| .c (20, .p) <| .c (21, .l) <| .c (22, .p) <| .c (23, .p) <| .c (24, .p) <| .c (25, .p) <| .c (26, .p) <| .c (27, .l) <| .c (28, .p) <| .c (29, .l) <| .c (30, .p) <| .c (31, .p) <| .c (32, .l) <| .c (33, .p) <| .c (34, .l) <| .c (35, .p) <| .c (36, .p) <| .c (37, .p) <| .c (38, .p) <| .c (39, .p) <| .c (40, .l) <| .c (41, .p) <| .c (42, .l) <| .c (43, .p) <| .c (44, .p) <| .c (45, .l) <| .c (46, .p) <| .c (47, .l) <| .c (48, .p) <| .c (49, .p) <| .c (50, .p) <| .c (51, .p) <| .c (52, .p) <| .c (53, .f) <| .n) [53] (by kernel_rfl) (by kernel_rfl) (by kernel_rfl) H

noncomputable def rg8_0 : Array Oper := rawAt Try.f8 0
/-- spec.RunMatrices -/
noncomputable def c8 : IC :=
  (.seq
  (.reg [
    ⟨some 3, .box 27 (.tmp 0), none⟩,
    ⟨some 6, .assign (.const (.slice none 0 0)), none⟩,
    ⟨some 7, .assign (.const (.bool false)), none⟩])
  (.seq
  (.seq
  (.reg [
    ⟨some 16, .load 27 (.tmp 3), none⟩,
    ⟨some 17, .call { callee := .value (.func 33), args := #[.tmp 16], argTypes := #[27] }, none⟩,
    ⟨some 18, .unOp .not 4 (.tmp 17), none⟩,
    ⟨some 19, .move (.tmp 18), none⟩,
    ⟨some 20, .move (.tmp 1), some (19, false)⟩,
    ⟨some 21, .call { callee := .value (.func 34), args := #[.tmp 20], argTypes := #[3] }, some (19, false)⟩,
    ⟨some 22, .unOp .not 4 (.tmp 21), some (19, false)⟩,
    ⟨some 23, .pick (.tmp 19) (.const (.bool true)) (.tmp 22), none⟩,
    ⟨some 24, .move (.tmp 23), none⟩,
    ⟨some 25, .move (.tmp 2), some (24, false)⟩,
    ⟨some 26, .call { callee := .builtin .len, args := #[.tmp 25], argTypes := #[28] }, some (24, false)⟩,
    ⟨some 27, .fieldAddr 27 (.tmp 3) 0, some (24, false)⟩,
    ⟨some 28, .load 3 (.tmp 27), some (24, false)⟩,
    ⟨some 29, .binOp .neq 3 (.tmp 26) (.tmp 28) 3, some (24, false)⟩,
    ⟨some 30, .pick (.tmp 24) (.const (.bool true)) (.tmp 29), none⟩])
  (.cond (.tmp 30)
    (.seq
    (.reg [
      ⟨some 6, .assign (.const (.slice none 0 0)), none⟩,
      ⟨some 7, .assign (.const (.bool false)), none⟩])
    .ret)
    .skip))
  (.seq
  (.seq
  (.reg [
    ⟨some 31, .move (.tmp 2), none⟩,
    ⟨some 32, .call { callee := .builtin .len, args := #[.tmp 31], argTypes := #[28] }, none⟩,
    ⟨some 33, .move (.const (.int .i64 0)), none⟩])
  (.block 0
  (.loop
    (.seq
    (.reg [
      ⟨some 34, .binOp .lss 3 (.tmp 33) (.tmp 32) 3, none⟩])
    (.seq
    (.cond (.tmp 34)
      .skip
      (.exit 0))
    (.seq
    (.block 1
    (.seq
    (.reg [
      ⟨some 35, .indexAddr 28 (.tmp 31) (.tmp 33), none⟩,
      ⟨some 36, .load 37 (.tmp 35), none⟩,
      ⟨some 9, .alloc 37, none⟩,
      ⟨none, .store 37 (.tmp 9) (.tmp 36), none⟩])
    (.seq
    (.reg [
      ⟨some 37, .load 37 (.tmp 9), none⟩,
      ⟨some 38, .move (.tmp 1), none⟩,
      ⟨some 39, .call { callee := .value (.func 35), args := #[.tmp 37, .tmp 38], argTypes := #[37, 3] }, none⟩,
      ⟨some 40, .unOp .not 4 (.tmp 39), none⟩])
    (.cond (.tmp 40)
      (.seq
      (.reg [
        ⟨some 6, .assign (.const (.slice none 0 0)), none⟩,
        ⟨some 7, .assign (.const (.bool false)), none⟩])
      .ret)
      .skip))))
    (.reg [
      ⟨some 41, .binOp .add 3 (.tmp 33) (.const (.int .i64 1)) 3, none⟩,
      ⟨some 33, .move (.tmp 41), none⟩])))))))
  (.seq
  (.reg [
    ⟨some 42, .buildSlice 28 0 #[], none⟩,
    ⟨some 43, .move (.tmp 2), none⟩,
    ⟨some 44, .call { callee := .builtin .append, args := #[.tmp 42, .tmp 43], argTypes := #[28, 28] }, none⟩,
    ⟨some 10, .assign (.tmp 44), none⟩])
  (.seq
  (.seq
  (.reg [
    ⟨some 45, .fieldAddr 27 (.tmp 3) 1, none⟩,
    ⟨some 46, .load 24 (.tmp 45), none⟩,
    ⟨some 47, .call { callee := .builtin .len, args := #[.tmp 46], argTypes := #[24] }, none⟩,
    ⟨some 48, .move (.const (.int .i64 0)), none⟩])
  (.block 2
  (.loop
    (.seq
    (.reg [
      ⟨some 49, .binOp .lss 3 (.tmp 48) (.tmp 47) 3, none⟩])
    (.seq
    (.cond (.tmp 49)
      .skip
      (.exit 2))
    (.seq
    (.block 3
    (.seq
    (.reg [
      ⟨some 50, .indexAddr 24 (.tmp 46) (.tmp 48), none⟩,
      ⟨some 51, .load 70 (.tmp 50), none⟩,
      ⟨some 12, .alloc 70, none⟩,
      ⟨none, .store 70 (.tmp 12) (.tmp 51), none⟩])
    (.raw (.region 13 rg8_0 true))))
    (.reg [
      ⟨some 67, .binOp .add 3 (.tmp 48) (.const (.int .i64 1)) 3, none⟩,
      ⟨some 48, .move (.tmp 67), none⟩])))))))
  (.seq
  (.reg [
    ⟨some 13, .assign (.const (.slice none 0 0)), none⟩])
  (.seq
  (.seq
  (.reg [
    ⟨some 68, .fieldAddr 27 (.tmp 3) 2, none⟩,
    ⟨some 69, .load 25 (.tmp 68), none⟩,
    ⟨some 70, .call { callee := .builtin .len, args := #[.tmp 69], argTypes := #[25] }, none⟩,
    ⟨some 71, .move (.const (.int .i64 0)), none⟩])
  (.block 4
  (.loop
    (.seq
    (.reg [
      ⟨some 72, .binOp .lss 3 (.tmp 71) (.tmp 70) 3, none⟩])
    (.seq
    (.cond (.tmp 72)
      .skip
      (.exit 4))
    (.seq
    (.block 5
    (.seq
    (.reg [
      ⟨some 73, .indexAddr 25 (.tmp 69) (.tmp 71), none⟩,
      ⟨some 74, .load 3 (.tmp 73), none⟩,
      ⟨some 15, .assign (.tmp 74), none⟩])
    (.reg [
      ⟨some 75, .move (.tmp 13), none⟩,
      ⟨some 76, .move (.tmp 10), none⟩,
      ⟨some 77, .move (.tmp 15), none⟩,
      ⟨some 78, .indexAddr 28 (.tmp 76) (.tmp 77), none⟩,
      ⟨some 79, .load 37 (.tmp 78), none⟩,
      ⟨some 80, .buildSlice 28 1 #[(0, .tmp 79)], none⟩,
      ⟨some 81, .call { callee := .builtin .append, args := #[.tmp 75, .tmp 80], argTypes := #[28, 28] }, none⟩,
      ⟨some 13, .assign (.tmp 81), none⟩])))
    (.reg [
      ⟨some 82, .binOp .add 3 (.tmp 71) (.const (.int .i64 1)) 3, none⟩,
      ⟨some 71, .move (.tmp 82), none⟩])))))))
  (.seq
  (.reg [
    ⟨some 83, .move (.tmp 13), none⟩,
    ⟨some 6, .assign (.tmp 83), none⟩,
    ⟨some 7, .assign (.const (.bool true)), none⟩])
  .ret))))))))
theorem hd8 : Try.f8.body.map dec = some c8 := by kernel_rfl
theorem e8 {R : AV → AH → Prop} {h : AH} (x0 x1 x2 : AV) (H : h.wf → AI Try.prog c8 (RetQ Try.prog [.tmp 6, .tmp 7] R) [x0, x1, x2, un, un, un, un, un, un, un, un, un, un, un, un, un, un, un, un, un, un, un, un, un, un, un, un, un, un, un, un, un, un, un, un, un, un, un, un, un, un, un, un, un, un, un, un, un, un, un, un, un, un, un, un, un, un, un, un, un, un, un, un, un, un, un, un, un, un, un, un, un, un, un, un, un, un, un, un, un, un, un, un, un] h) : AC Try.prog 8 [x0, x1, x2] h R :=
  AC_of' (rs := [.tmp 6, .tmp 7]) Try.func8 (by kernel_rfl) hd8 Try.ntmps8 rfl H
theorem dz8_0 {h0 : AH} {L : List It} {Q : Exit → List AV → List It → Prop} {a : List AV} {id : Nat} (H : LX Try.prog ⟨[14], []⟩ h0 L L (.c (⟨some 52, .move (.tmp 10), none⟩, .p) <| .c (⟨some 53, .move (.tmp 10), none⟩, .p) <| .c (⟨some 54, .fieldAddr 70 (.tmp 12) 0, none⟩, .p) <| .c (⟨some 55, .load 3 (.tmp 54), none⟩, .l) <| .c (⟨some 56, .indexAddr 28 (.tmp 53) (.tmp 55), none⟩, .p) <| .c (⟨some 57, .load 37 (.tmp 56), none⟩, .l) <| .c (⟨some 58, .move (.tmp 10), none⟩, .p) <| .c (⟨some 59, .fieldAddr 70 (.tmp 12) 1, none⟩, .p) <| .c (⟨some 60, .load 3 (.tmp 59), none⟩, .l) <| .c (⟨some 61, .indexAddr 28 (.tmp 58) (.tmp 60), none⟩, .p) <| .c (⟨some 62, .load 37 (.tmp 61), none⟩, .l) <| .c (⟨some 63, .move (.tmp 1), none⟩, .p) <| .c (⟨some 64, .call { callee := .value (.func 36), args := #[.tmp 57, .tmp 62, .tmp 63], argTypes := #[37, 37, 3] }, none⟩, .e) <| .c (⟨some 65, .buildSlice 28 1 #[(0, .tmp 64)], none⟩, .e) <| .c (⟨some 66, .call { callee := .builtin .append, args := #[.tmp 52, .tmp 65], argTypes := #[28, 28] }, none⟩, .f) <| .c (⟨some 10, .assign (.tmp 66), none⟩, .p) <| .n) Q a) : LI Try.prog h0 L (.raw (.region id rg8_0 true)) Q a :=
  LI_draw (.c (0, .p) <| .c (1, .p) <| .c (2, .p) <| .c (3, .l) <| .c (4, .p) <| .c (5, .l) <| .c (6, .p) <| .c (7, .p) <| .c (8, .l) <| .c (9, .p) <| .c (10, .l) <| .c (11, .p) <| .c (12, .e) <| .c (13, .e) <| .c (14, .f) <| .c (15, .p) <| .n) [14] (by kernel_rfl) (by kernel_rfl) (by kernel_rfl) H
theorem dy8_0 {h0 : AH} {L : List It} {Q : Exit → List AV → List It → Prop} {a : List AV} {id : Nat} (H : LX Try.prog ⟨[12, 13, 14], []⟩ h0 L L (.c (⟨some 52, .move (.tmp 10), none⟩, .p) <| .c (⟨some 53, .move (.tmp 10), none⟩, .p) <| .c (⟨some 54, .fieldAddr 70 (.tmp 12) 0, none⟩, .p) <| .c (⟨some 55, .load 3 (.tmp 54), none⟩, .l) <| .c (⟨some 56, .indexAddr 28 (.tmp 53) (.tmp 55), none⟩, .p) <| .c (⟨some 57, .load 37 (.tmp 56), none⟩, .l) <| .c (⟨some 58, .move (.tmp 10), none⟩, .p) <| .c (⟨some 59, .fieldAddr 70 (.tmp 12) 1, none⟩, .p) <| .c (⟨some 60, .load 3 (.tmp 59), none⟩, .l) <| .c (⟨some 61, .indexAddr 28 (.tmp 58) (.tmp 60), none⟩, .p) <| .c (⟨some 62, .load 37 (.tmp 61), none⟩, .l) <| .c (⟨some 63, .move (.tmp 1), none⟩, .p) <| .c (⟨some 64, .call { callee := .value (.func 36), args := #[.tmp 57, .tmp 62, .tmp 63], argTypes := #[37, 37, 3] }, none⟩, .f) <| .c (⟨some 65, .buildSlice 28 1 #[(0, .tmp 64)], none⟩, .f) <| .c (⟨some 66, .call { callee := .builtin .append, args := #[.tmp 52, .tmp 65], argTypes := #[28, 28] }, none⟩, .f) <| .c (⟨some 10, .assign (.tmp 66), none⟩, .p) <| .n) Q a) : LI Try.prog h0 L (.raw (.region id rg8_0 true)) Q a :=
  LI_draw (.c (0, .p) <| .c (1, .p) <| .c (2, .p) <| .c (3, .l) <| .c (4, .p) <| .c (5, .l) <| .c (6, .p) <| .c (7, .p) <| .c (8, .l) <| .c (9, .p) <| .c (10, .l) <| .c (11, .p) <| .c (12, .f) <| .c (13, .f) <| .c (14, .f) <| .c (15, .p) <| .n) [12, 13, 14] (by kernel_rfl) (by kernel_rfl) (by kernel_rfl) H
theorem dr8_0 (m : Nat) {Q : Exit → List AV → AH → Prop} {a : List AV} {h : AH} {id : Nat} (H : AX Try.prog m h [(⟨some 52, .move (.tmp 10), none⟩, true),
  (⟨some 53, .move (.tmp 10), none⟩, true),
  (⟨some 54, .fieldAddr 70 (.tmp 12) 0, none⟩, true),
  (⟨some 55, .load 3 (.tmp 54), none⟩, true),
  (⟨some 56, .indexAddr 28 (.tmp 53) (.tmp 55), none⟩, true),
  (⟨some 57, .load 37 (.tmp 56), none⟩, true),
  (⟨some 58, .move (.tmp 10), none⟩, true),
  (⟨some 59, .fieldAddr 70 (.tmp 12) 1, none⟩, true),
  (⟨some 60, .load 3 (.tmp 59), none⟩, true),
  (⟨some 61, .indexAddr 28 (.tmp 58) (.tmp 60), none⟩, true),
  (⟨some 62, .load 37 (.tmp 61), none⟩, true),
  (⟨some 63, .move (.tmp 1), none⟩, true),
  (⟨some 64, .call { callee := .value (.func 36), args := #[.tmp 57, .tmp 62, .tmp 63], argTypes := #[37, 37, 3] }, none⟩, false),
  (⟨some 65, .buildSlice 28 1 #[(0, .tmp 64)], none⟩, false),
  (⟨some 66, .call { callee := .builtin .append, args := #[.tmp 52, .tmp 65], argTypes := #[28, 28] }, none⟩, false),
  (⟨some 10, .assign (.tmp 66), none⟩, true)] (fun a' h' => Q .normal a' h') a h) : AI Try.prog (.raw (.region id rg8_0 true)) Q a h :=
  AI_draw [(0, true), (1, true), (2, true), (3, true), (4, true), (5, true), (6, true), (7, true), (8, true), (9, true), (10, true), (11, true), (12, false), (13, false), (14, false), (15, true)] m (by kernel_rfl) (by kernel_rfl) (by kernel_rfl) H

/-- slices.Clone[[]int,int] -/
def c68 : IC :=
  (.seq
  (.reg [
    ⟨some 2, .assign (.const (.slice none 0 0)), none⟩])
  (.seq
  (.seq
  (.reg [
    ⟨some 3, .move (.tmp 0), none⟩,
    ⟨some 4, .binOp .eql 25 (.tmp 3) (.const (.slice none 0 0)) 25, none⟩])
  (.cond (.tmp 4)
    (.seq
    (.reg [
      ⟨some 2, .assign (.const (.slice none 0 0)), none⟩])
    .ret)
    .skip))
  (.seq
  (.reg [
    ⟨some 5, .buildSlice 25 0 #[], none⟩,
    ⟨some 6, .move (.tmp 0), none⟩,
    ⟨some 7, .call { callee := .builtin .append, args := #[.tmp 5, .tmp 6], argTypes := #[25, 25] }, none⟩,
    ⟨some 2, .assign (.tmp 7), none⟩])
  .ret)))
theorem hd68 : Try.f68.body.map dec = some c68 := by kernel_rfl
theorem e68 {R : AV → AH → Prop} {h : AH} (x0 : AV) (H : h.wf → AI Try.prog c68 (RetQ Try.prog [.tmp 2] R) [x0, un, un, un, un, un, un, un] h) : AC Try.prog 68 [x0] h R :=
  AC_of' (rs := [.tmp 2]) Try.func68 (by kernel_rfl) hd68 Try.ntmps68 rfl H

/-- (*impl.Plan).outputExponents -/
def c37 : IC :=
  (.seq
  (.reg [
    ⟨some 2, .assign (.const (.slice none 0 0)), none⟩])
  (.seq
  (.reg [
    ⟨some 7, .move (.tmp 0), none⟩,
    ⟨some 8, .call { callee := .value (.func 60), args := #[.tmp 7], argTypes := #[64] }, none⟩,
    ⟨some 9, .buildSlice 33 0 #[], none⟩,
    ⟨some 3, .assign (.tmp 8), none⟩,
    ⟨some 4, .assign (.tmp 9), none⟩])
  (.seq
  (.seq
  (.reg [
    ⟨some 10, .move (.tmp 0), none⟩,
    ⟨some 11, .nilCheck (.tmp 10), none⟩,
    ⟨some 12, .fieldAddr 27 (.tmp 11) 2, none⟩,
    ⟨some 13, .load 25 (.tmp 12), none⟩,
    ⟨some 14, .call { callee := .builtin .len, args := #[.tmp 13], argTypes := #[25] }, none⟩,
    ⟨some 15, .move (.const (.int .i64 0)), none⟩])
  (.block 0
  (.loop
    (.seq
    (.reg [
      ⟨some 16, .binOp .lss 3 (.tmp 15) (.tmp 14) 3, none⟩])
    (.seq
    (.cond (.tmp 16)
      .skip
      (.exit 0))
    (.seq
    (.block 1
    (.seq
    (.reg [
      ⟨some 17, .indexAddr 25 (.tmp 13) (.tmp 15), none⟩,
      ⟨some 18, .load 3 (.tmp 17), none⟩,
      ⟨some 6, .assign (.tmp 18), none⟩])
    (.reg [
      ⟨some 19, .move (.tmp 4), none⟩,
      ⟨some 20, .move (.tmp 3), none⟩,
      ⟨some 21, .move (.tmp 6), none⟩,
      ⟨some 22, .indexAddr 33 (.tmp 20) (.tmp 21), none⟩,
      ⟨some 23, .load 25 (.tmp 22), none⟩,
      ⟨some 24, .call { callee := .value (.func 68), args := #[.tmp 23], argTypes := #[25] }, none⟩,
      ⟨some 25, .buildSlice 33 1 #[(0, .tmp 24)], none⟩,
      ⟨some 26, .call { callee := .builtin .append, args := #[.tmp 19, .tmp 25], argTypes := #[33, 33] }, none⟩,
      ⟨some 4, .assign (.tmp 26), none⟩])))
    (.reg [
      ⟨some 27, .binOp .add 3 (.tmp 15) (.const (.int .i64 1)) 3, none⟩,
      ⟨some 15, .move (.tmp 27), none⟩])))))))
  (.seq
  (.reg [
    ⟨some 28, .move (.tmp 4), none⟩,
    ⟨some 2, .assign (.tmp 28), none⟩])
  .ret))))
theorem hd37 : Try.f37.body.map dec = some c37 := by kernel_rfl
theorem e37 {R : AV → AH → Prop} {h : AH} (x0 : AV) (H : h.wf → AI Try.prog c37 (RetQ Try.prog [.tmp 2] R) [x0, un, un, un, un, un, un, un, un, un, un, un, un, un, un, un, un, un, un, un, un, un, un, un, un, un, un, un, un] h) : AC Try.prog 37 [x0] h R :=
  AC_of' (rs := [.tmp 2]) Try.func37 (by kernel_rfl) hd37 Try.ntmps37 rfl H

/-- impl.OutputExponents -/
def c9 : IC :=
  (.seq
  (.reg [
    ⟨some 1, .box 27 (.tmp 0), none⟩,
    ⟨some 2, .assign (.const (.slice none 0 0)), none⟩,
    ⟨some 3, .assign (.const (.bool false)), none⟩])
  (.seq
  (.seq
  (.reg [
    ⟨some 4, .load 27 (.tmp 1), none⟩,
    ⟨some 5, .call { callee := .value (.func 28), args := #[.tmp 4], argTypes := #[27] }, none⟩,
    ⟨some 6, .unOp .not 4 (.tmp 5), none⟩])
  (.cond (.tmp 6)
    (.seq
    (.reg [
      ⟨some 2, .assign (.const (.slice none 0 0)), none⟩,
      ⟨some 3, .assign (.const (.bool false)), none⟩])
    .ret)
    .skip))
  (.seq
  (.reg [
    ⟨some 7, .call { callee := .value (.func 37), args := #[.tmp 1], argTypes := #[27] }, none⟩,
    ⟨some 2, .assign (.tmp 7), none⟩,
    ⟨some 3, .assign (.const (.bool true)), none⟩])
  .ret)))
theorem hd9 : Try.f9.body.map dec = some c9 := by kernel_rfl
theorem e9 {R : AV → AH → Prop} {h : AH} (x0 : AV) (H : h.wf → AI Try.prog c9 (RetQ Try.prog [.tmp 2, .tmp 3] R) [x0, un, un, un, un, un, un, un] h) : AC Try.prog 9 [x0] h R :=
  AC_of' (rs := [.tmp 2, .tmp 3]) Try.func9 (by kernel_rfl) hd9 Try.ntmps9 rfl H

/-- impl.exponentOk -/
def c38 : IC :=
  (.seq
  (.reg [
    ⟨some 2, .assign (.const (.bool false)), none⟩])
  (.seq
  (.reg [
    ⟨some 3, .move (.tmp 0), none⟩,
    ⟨some 4, .call { callee := .value (.func 42), args := #[.tmp 3, .const (.int .i64 0), .const (.int .i64 1000000)], argTypes := #[3, 3, 3] }, none⟩,
    ⟨some 2, .assign (.tmp 4), none⟩])
  .ret))
theorem hd38 : Try.f38.body.map dec = some c38 := by kernel_rfl
theorem e38 {R : AV → AH → Prop} {h : AH} (x0 : AV) (H : h.wf → AI Try.prog c38 (RetQ Try.prog [.tmp 2] R) [x0, un, un, un, un] h) : AC Try.prog 38 [x0] h R :=
  AC_of' (rs := [.tmp 2]) Try.func38 (by kernel_rfl) hd38 Try.ntmps38 rfl H

/-- impl.power[impl.Matrix] -/
def c39 : IC :=
  (.seq
  (.reg [
    ⟨some 4, .box 37 (.tmp 0), none⟩,
    ⟨some 5, .box 37 (.tmp 1), none⟩,
    ⟨some 8, .alloc 37, none⟩])
  (.seq
  (.block 0
  (.loop
    (.seq
    (.seq
    (.reg [
      ⟨some 9, .move (.tmp 2), none⟩,
      ⟨some 10, .binOp .gtr 3 (.tmp 9) (.const (.int .i64 0)) 3, none⟩])
    (.cond (.tmp 10)
      .skip
      (.exit 0)))
    (.seq
    (.block 1
    (.seq
    (.seq
    (.reg [
      ⟨some 13, .move (.tmp 2), none⟩,
      ⟨some 14, .binOp .rem 3 (.tmp 13) (.const (.int .i64 2)) 3, none⟩,
      ⟨some 15, .binOp .eql 3 (.tmp 14) (.const (.int .i64 1)) 3, none⟩])
    (.cond (.tmp 15)
      (.reg [
        ⟨some 16, .move (.tmp 3), none⟩,
        ⟨some 17, .load 37 (.tmp 5), none⟩,
        ⟨some 18, .load 37 (.tmp 4), none⟩,
        ⟨some 19, .call { callee := .value (.tmp 16), args := #[.tmp 17, .tmp 18], argTypes := #[37, 37] }, none⟩,
        ⟨none, .store 37 (.tmp 5) (.tmp 19), none⟩])
      .skip))
    (.reg [
      ⟨some 20, .move (.tmp 3), none⟩,
      ⟨some 21, .load 37 (.tmp 4), none⟩,
      ⟨some 22, .load 37 (.tmp 4), none⟩,
      ⟨some 23, .call { callee := .value (.tmp 20), args := #[.tmp 21, .tmp 22], argTypes := #[37, 37] }, none⟩,
      ⟨none, .store 37 (.tmp 4) (.tmp 23), none⟩])))
    (.reg [
      ⟨some 11, .move (.tmp 2), none⟩,
      ⟨some 12, .binOp .quo 3 (.tmp 11) (.const (.int .i64 2)) 3, none⟩,
      ⟨some 2, .assign (.tmp 12), none⟩])))))
  (.seq
  (.reg [
    ⟨some 24, .load 37 (.tmp 5), none⟩,
    ⟨none, .store 37 (.tmp 8) (.tmp 24), none⟩])
  .ret)))
theorem hd39 : Try.f39.body.map dec = some c39 := by kernel_rfl
theorem e39 {R : AV → AH → Prop} {h : AH} (x0 x1 x2 x3 : AV) (H : h.wf → AI Try.prog c39 (RetQ Try.prog [.cell 8 37] R) [x0, x1, x2, x3, un, un, un, un, un, un, un, un, un, un, un, un, un, un, un, un, un, un, un, un, un] h) : AC Try.prog 39 [x0, x1, x2, x3] h R :=
  AC_of' (rs := [.cell 8 37]) Try.func39 (by kernel_rfl) hd39 Try.ntmps39 rfl H

noncomputable def rg10_0 : Array Oper := rawAt Try.f10 0
/-- impl.MatrixPower -/
noncomputable def c10 : IC :=
  (.seq
  (.reg [
    ⟨some 3, .box 37 (.tmp 0), none⟩,
    ⟨some 6, .alloc 37, none⟩,
    ⟨some 7, .assign (.const (.bool false)), none⟩])
  (.seq
  (.seq
  (.reg [
    ⟨some 8, .load 37 (.tmp 3), none⟩,
    ⟨some 9, .call { callee := .value (.func 27), args := #[.tmp 8], argTypes := #[37] }, none⟩,
    ⟨some 10, .move (.tmp 2), none⟩,
    ⟨some 11, .call { callee := .value (.func 26), args := #[.tmp 9, .tmp 10], argTypes := #[25, 3] }, none⟩,
    ⟨some 12, .unOp .not 4 (.tmp 11), none⟩,
    ⟨some 13, .move (.tmp 12), none⟩,
    ⟨some 14, .move (.tmp 1), some (13, false)⟩,
    ⟨some 15, .call { callee := .value (.func 38), args := #[.tmp 14], argTypes := #[3] }, some (13, false)⟩,
    ⟨some 16, .unOp .not 4 (.tmp 15), some (13, false)⟩,
    ⟨some 17, .pick (.tmp 13) (.const (.bool true)) (.tmp 16), none⟩])
  (.cond (.tmp 17)
    (.seq
    (.reg [
      ⟨some 18, .build 37 #[], none⟩,
      ⟨none, .store 37 (.tmp 6) (.tmp 18), none⟩,
      ⟨some 7, .assign (.const (.bool false)), none⟩])
    .ret)
    .skip))
  (.seq
  (.raw (.region 3 rg10_0 true))
  .ret)))
theorem hd10 : Try.f10.body.map dec = some c10 := by kernel_rfl
theorem e10 {R : AV → AH → Prop} {h : AH} (x0 x1 x2 : AV) (H : h.wf → AI Try.prog c10 (RetQ Try.prog [.cell 6 37, .tmp 7] R) [x0, x1, x2, un, un, un, un, un, un, un, un, un, un, un, un, un, un, un, un, un, un, un, un, un, un] h) : AC Try.prog 10 [x0, x1, x2] h R :=
  AC_of' (rs := [.cell 6 37, .tmp 7]) Try.func10 (by kernel_rfl) hd10 Try.ntmps10 rfl H
theorem dz10_0 {h0 : AH} {L : List It} {Q : Exit → List AV → List It → Prop} {a : List AV} {id : Nat} (H : LX Try.prog ⟨[6], []⟩ h0 L L (.c (⟨some 19, .load 37 (.tmp 3), none⟩, .l) <| .c (⟨some 20, .build 37 #[(0, .const (.int .i64 1)), (1, .const (.int .i64 0)), (2, .const (.int .i64 0)), (3, .const (.int .i64 1))], none⟩, .p) <| .c (⟨some 21, .move (.tmp 1), none⟩, .p) <| .c (⟨some 22, .move (.tmp 2), none⟩, .p) <| .c (⟨some 23, .call { callee := .value (.func 32), args := #[.tmp 22], argTypes := #[3] }, none⟩, .e) <| .c (⟨some 24, .call { callee := .value (.func 39), args := #[.tmp 19, .tmp 20, .tmp 21, .tmp 23], argTypes := #[37, 37, 3, 66] }, none⟩, .e) <| .c (⟨none, .store 37 (.tmp 6) (.tmp 24), none⟩, .f) <| .c (⟨some 7, .assign (.const (.bool true)), none⟩, .p) <| .n) Q a) : LI Try.prog h0 L (.raw (.region id rg10_0 true)) Q a :=
  LI_draw (.c (0, .l) <| .c (1, .p) <| .c (2, .p) <| .c (3, .p) <| .c (4, .e) <| .c (5, .e) <| .c (6, .f) <| .c (7, .p) <| .n) [6] (by kernel_rfl) (by kernel_rfl) (by kernel_rfl) H
theorem db10_0 {h0 : AH} {L : List It} {Q : Exit → List AV → List It → Prop} {a : List AV} {id : Nat} (K : List (Nat × List AV)) (hK : ∀ x ∈ K, It.pt x.1 x.2 ∈ L) (H : LX Try.prog ⟨[4, 5, 6], K⟩ h0 L L (.c (⟨some 20, .build 37 #[(0, .const (.int .i64 1)), (1, .const (.int .i64 0)), (2, .const (.int .i64 0)), (3, .const (.int .i64 1))], none⟩, .p) <| .c (⟨some 21, .move (.tmp 1), none⟩, .p) <| .c (⟨some 22, .move (.tmp 2), none⟩, .p) <| .t (.c (⟨some 19, .load 37 (.tmp 3), none⟩, .e) <| .c (⟨some 23, .call { callee := .value (.func 32), args := #[.tmp 22], argTypes := #[3] }, none⟩, .f) <| .c (⟨some 24, .call { callee := .value (.func 39), args := #[.tmp 19, .tmp 20, .tmp 21, .tmp 23], argTypes := #[37, 37, 3, 66] }, none⟩, .f) <| .c (⟨none, .store 37 (.tmp 6) (.tmp 24), none⟩, .f) <| .c (⟨some 7, .assign (.const (.bool true)), none⟩, .p) <| .n) (.c (⟨some 23, .call { callee := .value (.func 32), args := #[.tmp 22], argTypes := #[3] }, none⟩, .f) <| .c (⟨some 19, .load 37 (.tmp 3), none⟩, .e) <| .c (⟨some 24, .call { callee := .value (.func 39), args := #[.tmp 19, .tmp 20, .tmp 21, .tmp 23], argTypes := #[37, 37, 3, 66] }, none⟩, .f) <| .c (⟨none, .store 37 (.tmp 6) (.tmp 24), none⟩, .f) <| .c (⟨some 7, .assign (.const (.bool true)), none⟩, .p) <| .n)) Q a) : LI Try.prog h0 L (.raw (.region id rg10_0 true)) Q a :=
  LI_drawK (.c (1, .p) <| .c (2, .p) <| .c (3, .p) <| .t (.c (0, .e) <| .c (4, .f) <| .c (5, .f) <| .c (6, .f) <| .c (7, .p) <| .n) (.c (4, .f) <| .c (0, .e) <| .c (5, .f) <| .c (6, .f) <| .c (7, .p) <| .n)) [4, 5, 6] K hK (by kernel_rfl) (by kernel_rfl) (by kernel_rfl) H
theorem dr10_0 (m : Nat) {Q : Exit → List AV → AH → Prop} {a : List AV} {h : AH} {id : Nat} (H : AX Try.prog m h [(⟨some 19, .load 37 (.tmp 3), none⟩, true),
  (⟨some 20, .build 37 #[(0, .const (.int .i64 1)), (1, .const (.int .i64 0)), (2, .const (.int .i64 0)), (3, .const (.int .i64 1))], none⟩, true),
  (⟨some 21, .move (.tmp 1), none⟩, true),
  (⟨some 22, .move (.tmp 2), none⟩, true),
  (⟨some 23, .call { callee := .value (.func 32), args := #[.tmp 22], argTypes := #[3] }, none⟩, false),
  (⟨some 24, .call { callee := .value (.func 39), args := #[.tmp 19, .tmp 20, .tmp 21, .tmp 23], argTypes := #[37, 37, 3, 66] }, none⟩, false),
  (⟨none, .store 37 (.tmp 6) (.tmp 24), none⟩, false),
  (⟨some 7, .assign (.const (.bool true)), none⟩, true)] (fun a' h' => Q .normal a' h') a h) : AI Try.prog (.raw (.region id rg10_0 true)) Q a h :=
  AI_draw [(0, true), (1, true), (2, true), (3, true), (4, false), (5, false), (6, false), (7, true)] m (by kernel_rfl) (by kernel_rfl) (by kernel_rfl) H

/-- impl.PowersModulo$1 -/
def c41 : IC :=
  (.seq
  (.reg [
    ⟨some 2, .assign (.const (.bool false)), none⟩])
  (.seq
  (.reg [
    ⟨some 3, .move (.tmp 0), none⟩,
    ⟨some 4, .call { callee := .value (.func 38), args := #[.tmp 3], argTypes := #[3] }, none⟩,
    ⟨some 5, .unOp .not 4 (.tmp 4), none⟩,
    ⟨some 2, .assign (.tmp 5), none⟩])
  .ret))
theorem hd41 : Try.f41.body.map dec = some c41 := by kernel_rfl
theorem e41 {R : AV → AH → Prop} {h : AH} (x0 : AV) (H : h.wf → AI Try.prog c41 (RetQ Try.prog [.tmp 2] R) [x0, un, un, un, un, un] h) : AC Try.prog 41 [x0] h R :=
  AC_of' (rs := [.tmp 2]) Try.func41 (by kernel_rfl) hd41 Try.ntmps41 rfl H

/-- impl.PowersModulo$2 -/
def c43 : IC :=
  (.seq
  (.reg [
    ⟨some 5, .assign (.const (.int .i64 0)), none⟩])
  (.seq
  (.reg [
    ⟨some 6, .move (.tmp 0), none⟩,
    ⟨some 7, .move (.tmp 1), none⟩,
    ⟨some 8, .binOp .mul 3 (.tmp 6) (.tmp 7) 3, none⟩,
    ⟨some 9, .load 3 (.tmp 2), none⟩,
    ⟨some 10, .binOp .rem 3 (.tmp 8) (.tmp 9) 3, none⟩,
    ⟨some 5, .assign (.tmp 10), none⟩])
  .ret))
theorem hd43 : Try.f43.body.map dec = some c43 := by kernel_rfl
theorem e43 {R : AV → AH → Prop} {h : AH} (x0 x1 x2 : AV) (H : h.wf → AI Try.prog c43 (RetQ Try.prog [.tmp 5] R) [x0, x1, x2, un, un, un, un, un, un, un, un] h) : AC Try.prog 43 [x0, x1, x2] h R :=
  AC_of' (rs := [.tmp 5]) Try.func43 (by kernel_rfl) hd43 Try.ntmps43 rfl H

/-- impl.power[int] -/
def c44 : IC :=
  (.seq
  (.reg [
    ⟨some 8, .assign (.const (.int .i64 0)), none⟩])
  (.seq
  (.block 0
  (.loop
    (.seq
    (.seq
    (.reg [
      ⟨some 9, .move (.tmp 2), none⟩,
      ⟨some 10, .binOp .gtr 3 (.tmp 9) (.const (.int .i64 0)) 3, none⟩])
    (.cond (.tmp 10)
      .skip
      (.exit 0)))
    (.seq
    (.block 1
    (.seq
    (.seq
    (.reg [
      ⟨some 13, .move (.tmp 2), none⟩,
      ⟨some 14, .binOp .rem 3 (.tmp 13) (.const (.int .i64 2)) 3, none⟩,
      ⟨some 15, .binOp .eql 3 (.tmp 14) (.const (.int .i64 1)) 3, none⟩])
    (.cond (.tmp 15)
      (.reg [
        ⟨some 16, .move (.tmp 3), none⟩,
        ⟨some 17, .move (.tmp 1), none⟩,
        ⟨some 18, .move (.tmp 0), none⟩,
        ⟨some 19, .call { callee := .value (.tmp 16), args := #[.tmp 17, .tmp 18], argTypes := #[3, 3] }, none⟩,
        ⟨some 1, .assign (.tmp 19), none⟩])
      .skip))
    (.reg [
      ⟨some 20, .move (.tmp 3), none⟩,
      ⟨some 21, .move (.tmp 0), none⟩,
      ⟨some 22, .move (.tmp 0), none⟩,
      ⟨some 23, .call { callee := .value (.tmp 20), args := #[.tmp 21, .tmp 22], argTypes := #[3, 3] }, none⟩,
      ⟨some 0, .assign (.tmp 23), none⟩])))
    (.reg [
      ⟨some 11, .move (.tmp 2), none⟩,
      ⟨some 12, .binOp .quo 3 (.tmp 11) (.const (.int .i64 2)) 3, none⟩,
      ⟨some 2, .assign (.tmp 12), none⟩])))))
  (.seq
  (.reg [
    ⟨some 24, .move (.tmp 1), none⟩,
    ⟨some 8, .assign (.tmp 24), none⟩])
  .ret)))
theorem hd44 : Try.f44.body.map dec = some c44 := by kernel_rfl
theorem e44 {R : AV → AH → Prop} {h : AH} (x0 x1 x2 x3 : AV) (H : h.wf → AI Try.prog c44 (RetQ Try.prog [.tmp 8] R) [x0, x1, x2, x3, un, un, un, un, un, un, un, un, un, un, un, un, un, un, un, un, un, un, un, un, un] h) : AC Try.prog 44 [x0, x1, x2, x3] h R :=
  AC_of' (rs := [.tmp 8]) Try.func44 (by kernel_rfl) hd44 Try.ntmps44 rfl H

/-- impl.PowersModulo -/
def c11 : IC :=
  (.seq
  (.reg [
    ⟨some 4, .box 3 (.tmp 1), none⟩,
    ⟨some 6, .assign (.const (.int .i64 0)), none⟩,
    ⟨some 7, .assign (.const (.bool false)), none⟩])
  (.seq
  (.reg [
    ⟨some 13, .move (.tmp 0), none⟩,
    ⟨some 14, .call { callee := .value (.func 40), args := #[.tmp 13, .func 41], argTypes := #[25, 62] }, none⟩,
    ⟨some 8, .assign (.tmp 14), none⟩])
  (.seq
  (.seq
  (.reg [
    ⟨some 15, .move (.tmp 8), none⟩,
    ⟨some 16, .move (.tmp 15), none⟩,
    ⟨some 17, .move (.tmp 2), some (16, false)⟩,
    ⟨some 18, .load 3 (.tmp 4), some (16, false)⟩,
    ⟨some 19, .call { callee := .value (.func 26), args := #[.tmp 17, .tmp 18], argTypes := #[25, 3] }, some (16, false)⟩,
    ⟨some 20, .unOp .not 4 (.tmp 19), some (16, false)⟩,
    ⟨some 21, .pick (.tmp 16) (.const (.bool true)) (.tmp 20), none⟩,
    ⟨some 22, .move (.tmp 21), none⟩,
    ⟨some 23, .move (.tmp 2), some (22, false)⟩,
    ⟨some 24, .call { callee := .builtin .len, args := #[.tmp 23], argTypes := #[25] }, some (22, false)⟩,
    ⟨some 25, .call { callee := .value (.func 42), args := #[.tmp 24, .const (.int .i64 1), .const (.int .i64 6)], argTypes := #[3, 3, 3] }, some (22, false)⟩,
    ⟨some 26, .unOp .not 4 (.tmp 25), some (22, false)⟩,
    ⟨some 27, .pick (.tmp 22) (.const (.bool true)) (.tmp 26), none⟩,
    ⟨some 28, .move (.tmp 27), none⟩,
    ⟨some 29, .move (.tmp 0), some (28, false)⟩,
    ⟨some 30, .call { callee := .builtin .len, args := #[.tmp 29], argTypes := #[25] }, some (28, false)⟩,
    ⟨some 31, .move (.tmp 2), some (28, false)⟩,
    ⟨some 32, .call { callee := .builtin .len, args := #[.tmp 31], argTypes := #[25] }, some (28, false)⟩,
    ⟨some 33, .binOp .neq 3 (.tmp 30) (.tmp 32) 3, some (28, false)⟩,
    ⟨some 34, .pick (.tmp 28) (.const (.bool true)) (.tmp 33), none⟩])
  (.cond (.tmp 34)
    (.seq
    (.reg [
      ⟨some 6, .assign (.const (.int .i64 0)), none⟩,
      ⟨some 7, .assign (.const (.bool false)), none⟩])
    .ret)
    .skip))
  (.seq
  (.reg [
    ⟨some 35, .makeFunc (.func 43) #[] #[.tmp 4], none⟩,
    ⟨some 9, .assign (.tmp 35), none⟩,
    ⟨some 10, .assign (.const (.int .i64 1)), none⟩])
  (.seq
  (.seq
  (.reg [
    ⟨some 36, .move (.tmp 0), none⟩,
    ⟨some 37, .call { callee := .builtin .len, args := #[.tmp 36], argTypes := #[25] }, none⟩,
    ⟨some 38, .move (.const (.int .i64 0)), none⟩])
  (.block 0
  (.loop
    (.seq
    (.reg [
      ⟨some 39, .binOp .lss 3 (.tmp 38) (.tmp 37) 3, none⟩])
    (.seq
    (.cond (.tmp 39)
      .skip
      (.exit 0))
    (.seq
    (.block 1
    (.seq
    (.reg [
      ⟨some 40, .move (.tmp 38), none⟩,
      ⟨some 41, .indexAddr 25 (.tmp 36) (.tmp 38), none⟩,
      ⟨some 42, .load 3 (.tmp 41), none⟩,
      ⟨some 11, .assign (.tmp 40), none⟩,
      ⟨some 12, .assign (.tmp 42), none⟩])
    (.reg [
      ⟨some 43, .move (.tmp 9), none⟩,
      ⟨some 44, .move (.tmp 10), none⟩,
      ⟨some 45, .move (.tmp 2), none⟩,
      ⟨some 46, .move (.tmp 11), none⟩,
      ⟨some 47, .indexAddr 25 (.tmp 45) (.tmp 46), none⟩,
      ⟨some 48, .load 3 (.tmp 47), none⟩,
      ⟨some 49, .move (.tmp 12), none⟩,
      ⟨some 50, .move (.tmp 9), none⟩,
      ⟨some 51, .call { callee := .value (.func 44), args := #[.tmp 48, .const (.int .i64 1), .tmp 49, .tmp 50], argTypes := #[3, 3, 3, 55] }, none⟩,
      ⟨some 52, .call { callee := .value (.tmp 43), args := #[.tmp 44, .tmp 51], argTypes := #[3, 3] }, none⟩,
      ⟨some 10, .assign (.tmp 52), none⟩])))
    (.reg [
      ⟨some 53, .binOp .add 3 (.tmp 38) (.const (.int .i64 1)) 3, none⟩,
      ⟨some 38, .move (.tmp 53), none⟩])))))))
  (.seq
  (.reg [
    ⟨some 54, .move (.tmp 10), none⟩,
    ⟨some 6, .assign (.tmp 54), none⟩,
    ⟨some 7, .assign (.const (.bool true)), none⟩])
  .ret))))))
theorem hd11 : Try.f11.body.map dec = some c11 := by kernel_rfl
theorem e11 {R : AV → AH → Prop} {h : AH} (x0 x1 x2 : AV) (H : h.wf → AI Try.prog c11 (RetQ Try.prog [.tmp 6, .tmp 7] R) [x0, x1, x2, un, un, un, un, un, un, un, un, un, un, un, un, un, un, un, un, un, un, un, un, un, un, un, un, un, un, un, un, un, un, un, un, un, un, un, un, un, un, un, un, un, un, un, un, un, un, un, un, un, un, un, un] h) : AC Try.prog 11 [x0, x1, x2] h R :=
  AC_of' (rs := [.tmp 6, .tmp 7]) Try.func11 (by kernel_rfl) hd11 Try.ntmps11 rfl H

noncomputable def rg3_0 : Array Oper := rawAt Try.f3 0
noncomputable def rg3_1 : Array Oper := rawAt Try.f3 1
-- NO ORDER
/-- laws.FnRunsOfMatrices -/
noncomputable def c3 : IC :=
  (.seq
  (.reg [
    ⟨some 4, .assign (.const (.bool false)), none⟩])
  (.seq
  (.seq
  (.reg [
    ⟨some 23, .move (.tmp 0), none⟩,
    ⟨some 24, .move (.tmp 1), none⟩,
    ⟨some 25, .call { callee := .value (.func 5), args := #[.tmp 23, .tmp 24], argTypes := #[22, 22] }, none⟩])
  (.cond (.tmp 25)
    (.seq
    (.reg [
      ⟨some 4, .assign (.const (.bool true)), none⟩])
    .ret)
    .skip))
  (.seq
  (.reg [
    ⟨some 27, .move (.tmp 0), none⟩,
    ⟨some 28, .call { callee := .value (.func 6), args := #[.tmp 27], argTypes := #[22] }, none⟩,
    ⟨some 26, .move (.tmp 28), none⟩,
    ⟨some 29, .extract (.tmp 26) 0, none⟩,
    ⟨some 30, .extract (.tmp 26) 1, none⟩,
    ⟨some 31, .extract (.tmp 26) 2, none⟩,
    ⟨some 5, .alloc 27, none⟩,
    ⟨none, .store 27 (.tmp 5) (.tmp 29), none⟩,
    ⟨some 6, .assign (.tmp 30), none⟩,
    ⟨some 7, .assign (.tmp 31), none⟩])
  (.seq
  (.reg [
    ⟨some 33, .load 27 (.tmp 5), none⟩,
    ⟨some 34, .move (.tmp 6), none⟩,
    ⟨some 35, .move (.tmp 7), none⟩,
    ⟨some 36, .call { callee := .value (.func 7), args := #[.tmp 33, .tmp 34, .tmp 35], argTypes := #[27, 3, 28] }, none⟩,
    ⟨some 32, .move (.tmp 36), none⟩,
    ⟨some 37, .extract (.tmp 32) 0, none⟩,
    ⟨some 38, .extract (.tmp 32) 1, none⟩,
    ⟨some 8, .assign (.tmp 37), none⟩,
    ⟨some 9, .assign (.tmp 38), none⟩])
  (.seq
  (.reg [
    ⟨some 40, .load 27 (.tmp 5), none⟩,
    ⟨some 41, .move (.tmp 6), none⟩,
    ⟨some 42, .move (.tmp 7), none⟩,
    ⟨some 43, .call { callee := .value (.func 8), args := #[.tmp 40, .tmp 41, .tmp 42], argTypes := #[27, 3, 28] }, none⟩,
    ⟨some 39, .move (.tmp 43), none⟩,
    ⟨some 44, .extract (.tmp 39) 0, none⟩,
    ⟨some 45, .extract (.tmp 39) 1, none⟩,
    ⟨some 10, .assign (.tmp 44), none⟩,
    ⟨some 11, .assign (.tmp 45), none⟩])
  (.seq
  (.seq
  (.reg [
    ⟨some 46, .move (.tmp 9), none⟩,
    ⟨some 47, .move (.tmp 11), none⟩,
    ⟨some 48, .binOp .neq 4 (.tmp 46) (.tmp 47) 4, none⟩,
    ⟨some 49, .move (.tmp 48), none⟩,
    ⟨some 50, .move (.tmp 8), some (49, false)⟩,
    ⟨some 51, .call { callee := .builtin .len, args := #[.tmp 50], argTypes := #[28] }, some (49, false)⟩,
    ⟨some 52, .move (.tmp 10), some (49, false)⟩,
    ⟨some 53, .call { callee := .builtin .len, args := #[.tmp 52], argTypes := #[28] }, some (49, false)⟩,
    ⟨some 54, .binOp .neq 3 (.tmp 51) (.tmp 53) 3, some (49, false)⟩,
    ⟨some 55, .pick (.tmp 49) (.const (.bool true)) (.tmp 54), none⟩])
  (.cond (.tmp 55)
    (.seq
    (.reg [
      ⟨some 4, .assign (.const (.bool false)), none⟩])
    .ret)
    .skip))
  (.seq
  (.seq
  (.reg [
    ⟨some 56, .move (.tmp 9), none⟩,
    ⟨some 57, .unOp .not 4 (.tmp 56), none⟩])
  (.cond (.tmp 57)
    (.seq
    (.reg [
      ⟨some 4, .assign (.const (.bool true)), none⟩])
    .ret)
    .skip))
  (.seq
  (.reg [
    ⟨some 59, .load 27 (.tmp 5), none⟩,
    ⟨some 60, .call { callee := .value (.func 9), args := #[.tmp 59], argTypes := #[27] }, none⟩,
    ⟨some 58, .move (.tmp 60), none⟩,
    ⟨some 61, .extract (.tmp 58) 0, none⟩,
    ⟨some 62, .extract (.tmp 58) 1, none⟩,
    ⟨some 12, .assign (.tmp 61), none⟩,
    ⟨some 13, .assign (.tmp 62), none⟩])
  (.seq
  (.reg [
    ⟨some 14, .assign (.const (.slice none 0 0)), none⟩])
  (.seq
  (.seq
  (.reg [
    ⟨some 63, .move (.tmp 7), none⟩,
    ⟨some 64, .call { callee := .builtin .len, args := #[.tmp 63], argTypes := #[28] }, none⟩,
    ⟨some 65, .move (.const (.int .i64 0)), none⟩])
  (.block 0
  (.loop
    (.seq
    (.reg [
      ⟨some 66, .binOp .lss 3 (.tmp 65) (.tmp 64) 3, none⟩])
    (.seq
    (.cond (.tmp 66)
      .skip
      (.exit 0))
    (.seq
    (.block 1
    (.seq
    (.reg [
      ⟨some 67, .indexAddr 28 (.tmp 63) (.tmp 65), none⟩,
      ⟨some 68, .load 37 (.tmp 67), none⟩,
      ⟨some 16, .alloc 37, none⟩,
      ⟨none, .store 37 (.tmp 16) (.tmp 68), none⟩])
    (.reg [
      ⟨some 69, .move (.tmp 14), none⟩,
      ⟨some 70, .fieldAddr 37 (.tmp 16) 0, none⟩,
      ⟨some 71, .load 3 (.tmp 70), none⟩,
      ⟨some 72, .fieldAddr 37 (.tmp 16) 3, none⟩,
      ⟨some 73, .load 3 (.tmp 72), none⟩,
      ⟨some 74, .binOp .mul 3 (.tmp 71) (.tmp 73) 3, none⟩,
      ⟨some 75, .fieldAddr 37 (.tmp 16) 1, none⟩,
      ⟨some 76, .load 3 (.tmp 75), none⟩,
      ⟨some 77, .fieldAddr 37 (.tmp 16) 2, none⟩,
      ⟨some 78, .load 3 (.tmp 77), none⟩,
      ⟨some 79, .binOp .mul 3 (.tmp 76) (.tmp 78) 3, none⟩,
      ⟨some 80, .binOp .sub 3 (.tmp 74) (.tmp 79) 3, none⟩,
      ⟨some 81, .move (.tmp 6), none⟩,
      ⟨some 82, .binOp .rem 3 (.tmp 80) (.tmp 81) 3, none⟩,
      ⟨some 83, .move (.tmp 6), none⟩,
      ⟨some 84, .binOp .add 3 (.tmp 82) (.tmp 83) 3, none⟩,
      ⟨some 85, .move (.tmp 6), none⟩,
      ⟨some 86, .binOp .rem 3 (.tmp 84) (.tmp 85) 3, none⟩,
      ⟨some 87, .buildSlice 25 1 #[(0, .tmp 86)], none⟩,
      ⟨some 88, .call { callee := .builtin .append, args := #[.tmp 69, .tmp 87], argTypes := #[25, 25] }, none⟩,
      ⟨some 14, .assign (.tmp 88), none⟩])))
    (.reg [
      ⟨some 89, .binOp .add 3 (.tmp 65) (.const (.int .i64 1)) 3, none⟩,
      ⟨some 65, .move (.tmp 89), none⟩])))))))
  (.seq
  (.seq
  (.reg [
    ⟨some 90, .move (.tmp 13), none⟩,
    ⟨some 91, .unOp .not 4 (.tmp 90), none⟩])
  (.cond (.tmp 91)
    (.seq
    (.reg [
      ⟨some 4, .assign (.const (.bool false)), none⟩])
    .ret)
    .skip))
  (.seq
  (.seq
  (.reg [
    ⟨some 92, .move (.tmp 8), none⟩,
    ⟨some 93, .call { callee := .builtin .len, args := #[.tmp 92], argTypes := #[28] }, none⟩,
    ⟨some 94, .move (.const (.int .i64 0)), none⟩])
  (.block 2
  (.loop
    (.seq
    (.reg [
      ⟨some 95, .binOp .lss 3 (.tmp 94) (.tmp 93) 3, none⟩])
    (.seq
    (.cond (.tmp 95)
      .skip
      (.exit 2))
    (.seq
    (.block 3
    (.seq
    (.reg [
      ⟨some 96, .move (.tmp 94), none⟩,
      ⟨some 97, .indexAddr 28 (.tmp 92) (.tmp 94), none⟩,
      ⟨some 98, .load 37 (.tmp 97), none⟩,
      ⟨some 18, .alloc 37, none⟩,
      ⟨some 17, .assign (.tmp 96), none⟩,
      ⟨none, .store 37 (.tmp 18) (.tmp 98), none⟩])
    (.seq
    (.seq
    (.raw (.region 22 rg3_0 true))
    (.cond (.tmp 104)
      (.seq
      (.reg [
        ⟨some 4, .assign (.const (.bool false)), none⟩])
      .ret)
      .skip))
    (.seq
    (.seq
    (.reg [
      ⟨some 105, .fieldAddr 27 (.tmp 5) 0, none⟩,
      ⟨some 106, .load 3 (.tmp 105), none⟩,
      ⟨some 107, .binOp .eql 3 (.tmp 106) (.const (.int .i64 1)) 3, none⟩])
    (.cond (.tmp 107)
      (.seq
      (.raw (.region 25 rg3_1 true))
      (.seq
      (.reg [
        ⟨some 122, .move (.tmp 20), none⟩,
        ⟨some 123, .unOp .not 4 (.tmp 122), none⟩,
        ⟨some 124, .move (.tmp 123), none⟩,
        ⟨some 125, .load 37 (.tmp 19), some (124, false)⟩,
        ⟨some 126, .load 37 (.tmp 18), some (124, false)⟩,
        ⟨some 127, .binOp .neq 37 (.tmp 125) (.tmp 126) 37, some (124, false)⟩,
        ⟨some 128, .pick (.tmp 124) (.const (.bool true)) (.tmp 127), none⟩])
      (.cond (.tmp 128)
        (.seq
        (.reg [
          ⟨some 4, .assign (.const (.bool false)), none⟩])
        .ret)
        .skip)))
      .skip))
    (.seq
    (.reg [
      ⟨some 130, .move (.tmp 12), none⟩,
      ⟨some 131, .move (.tmp 17), none⟩,
      ⟨some 132, .indexAddr 33 (.tmp 130) (.tmp 131), none⟩,
      ⟨some 133, .load 25 (.tmp 132), none⟩,
      ⟨some 134, .move (.tmp 6), none⟩,
      ⟨some 135, .move (.tmp 14), none⟩,
      ⟨some 136, .call { callee := .value (.func 11), args := #[.tmp 133, .tmp 134, .tmp 135], argTypes := #[25, 3, 25] }, none⟩,
      ⟨some 129, .move (.tmp 136), none⟩,
      ⟨some 137, .extract (.tmp 129) 0, none⟩,
      ⟨some 138, .extract (.tmp 129) 1, none⟩,
      ⟨some 21, .assign (.tmp 137), none⟩,
      ⟨some 22, .assign (.tmp 138), none⟩])
    (.seq
    (.reg [
      ⟨some 139, .move (.tmp 22), none⟩,
      ⟨some 140, .unOp .not 4 (.tmp 139), none⟩,
      ⟨some 141, .move (.tmp 140), none⟩,
      ⟨some 142, .move (.tmp 21), some (141, false)⟩,
      ⟨some 143, .fieldAddr 37 (.tmp 18) 0, some (141, false)⟩,
      ⟨some 144, .load 3 (.tmp 143), some (141, false)⟩,
      ⟨some 145, .fieldAddr 37 (.tmp 18) 3, some (141, false)⟩,
      ⟨some 146, .load 3 (.tmp 145), some (141, false)⟩,
      ⟨some 147, .binOp .mul 3 (.tmp 144) (.tmp 146) 3, some (141, false)⟩,
      ⟨some 148, .fieldAddr 37 (.tmp 18) 1, some (141, false)⟩,
      ⟨some 149, .load 3 (.tmp 148), some (141, false)⟩,
      ⟨some 150, .fieldAddr 37 (.tmp 18) 2, some (141, false)⟩,
      ⟨some 151, .load 3 (.tmp 150), some (141, false)⟩,
      ⟨some 152, .binOp .mul 3 (.tmp 149) (.tmp 151) 3, some (141, false)⟩,
      ⟨some 153, .binOp .sub 3 (.tmp 147) (.tmp 152) 3, some (141, false)⟩,
      ⟨some 154, .move (.tmp 6), some (141, false)⟩,
      ⟨some 155, .binOp .rem 3 (.tmp 153) (.tmp 154) 3, some (141, false)⟩,
      ⟨some 156, .move (.tmp 6), some (141, false)⟩,
      ⟨some 157, .binOp .add 3 (.tmp 155) (.tmp 156) 3, some (141, false)⟩,
      ⟨some 158, .move (.tmp 6), some (141, false)⟩,
      ⟨some 159, .binOp .rem 3 (.tmp 157) (.tmp 158) 3, some (141, false)⟩,
      ⟨some 160, .binOp .neq 3 (.tmp 142) (.tmp 159) 3, some (141, false)⟩,
      ⟨some 161, .pick (.tmp 141) (.const (.bool true)) (.tmp 160), none⟩])
    (.cond (.tmp 161)
      (.seq
      (.reg [
        ⟨some 4, .assign (.const (.bool false)), none⟩])
      .ret)
      .skip)))))))
    (.reg [
      ⟨some 162, .binOp .add 3 (.tmp 94) (.const (.int .i64 1)) 3, none⟩,
      ⟨some 94, .move (.tmp 162), none⟩])))))))
  (.seq
  (.reg [
    ⟨some 4, .assign (.const (.bool true)), none⟩])
  .ret)))))))))))))
theorem hd3 : Try.f3.body.map dec = some c3 := by kernel_rfl
theorem e3 {R : AV → AH → Prop} {h : AH} (x0 x1 : AV) (H : h.wf → AI Try.prog c3 (RetQ Try.prog [.tmp 4] R) [x0, x1, un, un, un, un, un, un, un, un, un, un, un, un, un, un, un, un, un, un, un, un, un, un, un, un, un, un, un, un, un, un, un, un, un, un, un, un, un, un, un, un, un, un, un, un, un, un, un, un, un, un, un, un, un, un, un, un, un, un, un, un, un, un, un, un, un, un, un, un, un, un, un, un, un, un, un, un, un, un, un, un, un, un, un, un, un, un, un, un, un, un, un, un, un, un, un, un, un, un, un, un, un, un, un, un, un, un, un, un, un, un, un, un, un, un, un, un, un, un, un, un, un, un, un, un, un, un, un, un, un, un, un, un, un, un, un, un, un, un, un, un, un, un, un, un, un, un, un, un, un, un, un, un, un, un, un, un, un, un, un, un, un] h) : AC Try.prog 3 [x0, x1] h R :=
  AC_of' (rs := [.tmp 4]) Try.func3 (by kernel_rfl) hd3 Try.ntmps3 rfl H
theorem dz3_0 {h0 : AH} {L : List It} {Q : Exit → List AV → List It → Prop} {a : List AV} {id : Nat} (H : LX Try.prog ⟨[], []⟩ h0 L L (.c (⟨some 99, .load 37 (.tmp 18), none⟩, .l) <| .c (⟨some 100, .move (.tmp 10), none⟩, .p) <| .c (⟨some 101, .move (.tmp 17), none⟩, .p) <| .c (⟨some 102, .indexAddr 28 (.tmp 100) (.tmp 101), none⟩, .p) <| .c (⟨some 103, .load 37 (.tmp 102), none⟩, .l) <| .c (⟨some 104, .binOp .neq 37 (.tmp 99) (.tmp 103) 37, none⟩, .p) <| .n) Q a) : LI Try.prog h0 L (.raw (.region id rg3_0 true)) Q a :=
  LI_draw (.c (0, .l) <| .c (1, .p) <| .c (2, .p) <| .c (3, .p) <| .c (4, .l) <| .c (5, .p) <| .n) [] (by kernel_rfl) (by kernel_rfl) (by kernel_rfl) H
theorem dr3_0 (m : Nat) {Q : Exit → List AV → AH → Prop} {a : List AV} {h : AH} {id : Nat} (H : AX Try.prog m h [(⟨some 99, .load 37 (.tmp 18), none⟩, true),
  (⟨some 100, .move (.tmp 10), none⟩, true),
  (⟨some 101, .move (.tmp 17), none⟩, true),
  (⟨some 102, .indexAddr 28 (.tmp 100) (.tmp 101), none⟩, true),
  (⟨some 103, .load 37 (.tmp 102), none⟩, true),
  (⟨some 104, .binOp .neq 37 (.tmp 99) (.tmp 103) 37, none⟩, true)] (fun a' h' => Q .normal a' h') a h) : AI Try.prog (.raw (.region id rg3_0 true)) Q a h :=
  AI_draw [(0, true), (1, true), (2, true), (3, true), (4, true), (5, true)] m (by kernel_rfl) (by kernel_rfl) (by kernel_rfl) H
theorem dz3_1 {h0 : AH} {L : List It} {Q : Exit → List AV → List It → Prop} {a : List AV} {id : Nat} (H : LX Try.prog ⟨[15], []⟩ h0 L L (.c (⟨some 109, .move (.tmp 7), none⟩, .p) <| .c (⟨some 110, .indexAddr 28 (.tmp 109) (.const (.int .i64 0)), none⟩, .p) <| .c (⟨some 111, .load 37 (.tmp 110), none⟩, .l) <| .c (⟨some 112, .move (.tmp 12), none⟩, .p) <| .c (⟨some 113, .move (.tmp 17), none⟩, .p) <| .c (⟨some 114, .indexAddr 33 (.tmp 112) (.tmp 113), none⟩, .p) <| .c (⟨some 115, .load 25 (.tmp 114), none⟩, .l) <| .c (⟨some 116, .indexAddr 25 (.tmp 115) (.const (.int .i64 0)), none⟩, .p) <| .c (⟨some 117, .load 3 (.tmp 116), none⟩, .l) <| .c (⟨some 118, .move (.tmp 6), none⟩, .p) <| .t (.c (⟨some 119, .call { callee := .value (.func 10), args := #[.tmp 111, .tmp 117, .tmp 118], argTypes := #[37, 3, 3] }, none⟩, .e) <| .c (⟨some 108, .move (.tmp 119), none⟩, .p) <| .c (⟨some 120, .extract (.tmp 108) 0, none⟩, .p) <| .c (⟨some 121, .extract (.tmp 108) 1, none⟩, .p) <| .c (⟨some 19, .alloc 37, none⟩, .e) <| .c (⟨none, .store 37 (.tmp 19) (.tmp 120), none⟩, .f) <| .c (⟨some 20, .assign (.tmp 121), none⟩, .p) <| .n) (.c (⟨some 19, .alloc 37, none⟩, .e) <| .c (⟨some 119, .call { callee := .value (.func 10), args := #[.tmp 111, .tmp 117, .tmp 118], argTypes := #[37, 3, 3] }, none⟩, .e) <| .c (⟨some 108, .move (.tmp 119), none⟩, .p) <| .c (⟨some 120, .extract (.tmp 108) 0, none⟩, .p) <| .c (⟨some 121, .extract (.tmp 108) 1, none⟩, .p) <| .c (⟨none, .store 37 (.tmp 19) (.tmp 120), none⟩, .f) <| .c (⟨some 20, .assign (.tmp 121), none⟩, .p) <| .n)) Q a) : LI Try.prog h0 L (.raw (.region id rg3_1 true)) Q a :=
  LI_draw (.c (0, .p) <| .c (1, .p) <| .c (2, .l) <| .c (3, .p) <| .c (4, .p) <| .c (5, .p) <| .c (6, .l) <| .c (7, .p) <| .c (8, .l) <| .c (9, .p) <| .t (.c (10, .e) <| .c (11, .p) <| .c (12, .p) <| .c (13, .p) <| .c (14, .e) <| .c (15, .f) <| .c (16, .p) <| .n) (.c (14, .e) <| .c (10, .e) <| .c (11, .p) <| .c (12, .p) <| .c (13, .p) <| .c (15, .f) <| .c (16, .p) <| .n)) [15] (by kernel_rfl) (by kernel_rfl) (by kernel_rfl) H
theorem db3_1 {h0 : AH} {L : List It} {Q : Exit → List AV → List It → Prop} {a : List AV} {id : Nat} (K : List (Nat × List AV)) (hK : ∀ x ∈ K, It.pt x.1 x.2 ∈ L) (H : LX Try.prog ⟨[10, 14, 15], K⟩ h0 L L (.c (⟨some 109, .move (.tmp 7), none⟩, .p) <| .c (⟨some 110, .indexAddr 28 (.tmp 109) (.const (.int .i64 0)), none⟩, .p) <| .c (⟨some 112, .move (.tmp 12), none⟩, .p) <| .c (⟨some 113, .move (.tmp 17), none⟩, .p) <| .c (⟨some 114, .indexAddr 33 (.tmp 112) (.tmp 113), none⟩, .p) <| .c (⟨some 118, .move (.tmp 6), none⟩, .p) <| .t (.c (⟨some 111, .load 37 (.tmp 110), none⟩, .e) <| .t (.c (⟨some 115, .load 25 (.tmp 114), none⟩, .e) <| .c (⟨some 116, .indexAddr 25 (.tmp 115) (.const (.int .i64 0)), none⟩, .p) <| .c (⟨some 117, .load 3 (.tmp 116), none⟩, .kp) <| .t (.c (⟨some 119, .call { callee := .value (.func 10), args := #[.tmp 111, .tmp 117, .tmp 118], argTypes := #[37, 3, 3] }, none⟩, .f) <| .c (⟨some 108, .move (.tmp 119), none⟩, .p) <| .c (⟨some 120, .extract (.tmp 108) 0, none⟩, .p) <| .c (⟨some 121, .extract (.tmp 108) 1, none⟩, .p) <| .c (⟨some 19, .alloc 37, none⟩, .f) <| .c (⟨none, .store 37 (.tmp 19) (.tmp 120), none⟩, .f) <| .c (⟨some 20, .assign (.tmp 121), none⟩, .p) <| .n) (.c (⟨some 19, .alloc 37, none⟩, .f) <| .c (⟨some 119, .call { callee := .value (.func 10), args := #[.tmp 111, .tmp 117, .tmp 118], argTypes := #[37, 3, 3] }, none⟩, .f) <| .c (⟨some 108, .move (.tmp 119), none⟩, .p) <| .c (⟨some 120, .extract (.tmp 108) 0, none⟩, .p) <| .c (⟨some 121, .extract (.tmp 108) 1, none⟩, .p) <| .c (⟨none, .store 37 (.tmp 19) (.tmp 120), none⟩, .f) <| .c (⟨some 20, .assign (.tmp 121), none⟩, .p) <| .n)) (.c (⟨some 19, .alloc 37, none⟩, .f) <| .c (⟨some 115, .load 25 (.tmp 114), none⟩, .e) <| .c (⟨some 116, .indexAddr 25 (.tmp 115) (.const (.int .i64 0)), none⟩, .p) <| .c (⟨some 117, .load 3 (.tmp 116), none⟩, .kp) <| .c (⟨some 119, .call { callee := .value (.func 10), args := #[.tmp 111, .tmp 117, .tmp 118], argTypes := #[37, 3, 3] }, none⟩, .f) <| .c (⟨some 108, .move (.tmp 119), none⟩, .p) <| .c (⟨some 120, .extract (.tmp 108) 0, none⟩, .p) <| .c (⟨some 121, .extract (.tmp 108) 1, none⟩, .p) <| .c (⟨none, .store 37 (.tmp 19) (.tmp 120), none⟩, .f) <| .c (⟨some 20, .assign (.tmp 121), none⟩, .p) <| .n)) (.t (.c (⟨some 115, .load 25 (.tmp 114), none⟩, .e) <| .c (⟨some 116, .indexAddr 25 (.tmp 115) (.const (.int .i64 0)), none⟩, .p) <| .c (⟨some 117, .load 3 (.tmp 116), none⟩, .kp) <| .t (.c (⟨some 111, .load 37 (.tmp 110), none⟩, .e) <| .t (.c (⟨some 119, .call { callee := .value (.func 10), args := #[.tmp 111, .tmp 117, .tmp 118], argTypes := #[37, 3, 3] }, none⟩, .f) <| .c (⟨some 108, .move (.tmp 119), none⟩, .p) <| .c (⟨some 120, .extract (.tmp 108) 0, none⟩, .p) <| .c (⟨some 121, .extract (.tmp 108) 1, none⟩, .p) <| .c (⟨some 19, .alloc 37, none⟩, .f) <| .c (⟨none, .store 37 (.tmp 19) (.tmp 120), none⟩, .f) <| .c (⟨some 20, .assign (.tmp 121), none⟩, .p) <| .n) (.c (⟨some 19, .alloc 37, none⟩, .f) <| .c (⟨some 119, .call { callee := .value (.func 10), args := #[.tmp 111, .tmp 117, .tmp 118], argTypes := #[37, 3, 3] }, none⟩, .f) <| .c (⟨some 108, .move (.tmp 119), none⟩, .p) <| .c (⟨some 120, .extract (.tmp 108) 0, none⟩, .p) <| .c (⟨some 121, .extract (.tmp 108) 1, none⟩, .p) <| .c (⟨none, .store 37 (.tmp 19) (.tmp 120), none⟩, .f) <| .c (⟨some 20, .assign (.tmp 121), none⟩, .p) <| .n)) (.c (⟨some 19, .alloc 37, none⟩, .f) <| .c (⟨some 111, .load 37 (.tmp 110), none⟩, .e) <| .c (⟨some 119, .call { callee := .value (.func 10), args := #[.tmp 111, .tmp 117, .tmp 118], argTypes := #[37, 3, 3] }, none⟩, .f) <| .c (⟨some 108, .move (.tmp 119), none⟩, .p) <| .c (⟨some 120, .extract (.tmp 108) 0, none⟩, .p) <| .c (⟨some 121, .extract (.tmp 108) 1, none⟩, .p) <| .c (⟨none, .store 37 (.tmp 19) (.tmp 120), none⟩, .f) <| .c (⟨some 20, .assign (.tmp 121), none⟩, .p) <| .n)) (.c (⟨some 19, .alloc 37, none⟩, .f) <| .t (.c (⟨some 111, .load 37 (.tmp 110), none⟩, .e) <| .c (⟨some 115, .load 25 (.tmp 114), none⟩, .e) <| .c (⟨some 116, .indexAddr 25 (.tmp 115) (.const (.int .i64 0)), none⟩, .p) <| .c (⟨some 117, .load 3 (.tmp 116), none⟩, .kp) <| .c (⟨some 119, .call { callee := .value (.func 10), args := #[.tmp 111, .tmp 117, .tmp 118], argTypes := #[37, 3, 3] }, none⟩, .f) <| .c (⟨some 108, .move (.tmp 119), none⟩, .p) <| .c (⟨some 120, .extract (.tmp 108) 0, none⟩, .p) <| .c (⟨some 121, .extract (.tmp 108) 1, none⟩, .p) <| .c (⟨none, .store 37 (.tmp 19) (.tmp 120), none⟩, .f) <| .c (⟨some 20, .assign (.tmp 121), none⟩, .p) <| .n) (.c (⟨some 115, .load 25 (.tmp 114), none⟩, .e) <| .c (⟨some 116, .indexAddr 25 (.tmp 115) (.const (.int .i64 0)), none⟩, .p) <| .c (⟨some 117, .load 3 (.tmp 116), none⟩, .kp) <| .c (⟨some 111, .load 37 (.tmp 110), none⟩, .e) <| .c (⟨some 119, .call { callee := .value (.func 10), args := #[.tmp 111, .tmp 117, .tmp 118], argTypes := #[37, 3, 3] }, none⟩, .f) <| .c (⟨some 108, .move (.tmp 119), none⟩, .p) <| .c (⟨some 120, .extract (.tmp 108) 0, none⟩, .p) <| .c (⟨some 121, .extract (.tmp 108) 1, none⟩, .p) <| .c (⟨none, .store 37 (.tmp 19) (.tmp 120), none⟩, .f) <| .c (⟨some 20, .assign (.tmp 121), none⟩, .p) <| .n)))) Q a) : LI Try.prog h0 L (.raw (.region id rg3_1 true)) Q a :=
  LI_drawK (.c (0, .p) <| .c (1, .p) <| .c (3, .p) <| .c (4, .p) <| .c (5, .p) <| .c (9, .p) <| .t (.c (2, .e) <| .t (.c (6, .e) <| .c (7, .p) <| .c (8, .kp) <| .t (.c (10, .f) <| .c (11, .p) <| .c (12, .p) <| .c (13, .p) <| .c (14, .f) <| .c (15, .f) <| .c (16, .p) <| .n) (.c (14, .f) <| .c (10, .f) <| .c (11, .p) <| .c (12, .p) <| .c (13, .p) <| .c (15, .f) <| .c (16, .p) <| .n)) (.c (14, .f) <| .c (6, .e) <| .c (7, .p) <| .c (8, .kp) <| .c (10, .f) <| .c (11, .p) <| .c (12, .p) <| .c (13, .p) <| .c (15, .f) <| .c (16, .p) <| .n)) (.t (.c (6, .e) <| .c (7, .p) <| .c (8, .kp) <| .t (.c (2, .e) <| .t (.c (10, .f) <| .c (11, .p) <| .c (12, .p) <| .c (13, .p) <| .c (14, .f) <| .c (15, .f) <| .c (16, .p) <| .n) (.c (14, .f) <| .c (10, .f) <| .c (11, .p) <| .c (12, .p) <| .c (13, .p) <| .c (15, .f) <| .c (16, .p) <| .n)) (.c (14, .f) <| .c (2, .e) <| .c (10, .f) <| .c (11, .p) <| .c (12, .p) <| .c (13, .p) <| .c (15, .f) <| .c (16, .p) <| .n)) (.c (14, .f) <| .t (.c (2, .e) <| .c (6, .e) <| .c (7, .p) <| .c (8, .kp) <| .c (10, .f) <| .c (11, .p) <| .c (12, .p) <| .c (13, .p) <| .c (15, .f) <| .c (16, .p) <| .n) (.c (6, .e) <| .c (7, .p) <| .c (8, .kp) <| .c (2, .e) <| .c (10, .f) <| .c (11, .p) <| .c (12, .p) <| .c (13, .p) <| .c (15, .f) <| .c (16, .p) <| .n)))) [10, 14, 15] K hK (by kernel_rfl) (by kernel_rfl) (by kernel_rfl) H

end Go.Proofs.Ytinnajihcpldlaa
