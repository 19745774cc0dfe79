/- The short forms of the functions' code, and facts on types. -/
import Derived.Test.YtlgjakoeogpjlaaProg
import Derived.Test.YtlgjakoeogpjlaaD3
namespace Go.Proofs.Ytlgjakoeogpjlaa
open Go.AL
set_option linter.unusedVariables false
theorem sz0 : szT Try.prog 0 = some 1 := by kernel_rfl
theorem by0 : byT Try.prog 0 = some 0 := by kernel_rfl
theorem ag0 : aggT Try.prog 0 = some false := by kernel_rfl
instance jsz0 : Tsz Try.prog 0 1 := ⟨sz0⟩
instance jby0 : Tby Try.prog 0 0 := ⟨by0⟩
instance jag0 : Tag Try.prog 0 false := ⟨ag0⟩
theorem sz1 : szT Try.prog 1 = some 1 := by kernel_rfl
theorem by1 : byT Try.prog 1 = some 8 := by kernel_rfl
theorem ag1 : aggT Try.prog 1 = some false := by kernel_rfl
instance jsz1 : Tsz Try.prog 1 1 := ⟨sz1⟩
instance jby1 : Tby Try.prog 1 8 := ⟨by1⟩
instance jag1 : Tag Try.prog 1 false := ⟨ag1⟩
theorem ze1 : zeroA Try.prog 1 = some .nf := by kernel_rfl
instance jze1 : Tze Try.prog 1 (.nf) := ⟨ze1⟩
theorem sz2 : szT Try.prog 2 = some 1 := by kernel_rfl
theorem by2 : byT Try.prog 2 = some 8 := by kernel_rfl
theorem ag2 : aggT Try.prog 2 = some false := by kernel_rfl
instance jsz2 : Tsz Try.prog 2 1 := ⟨sz2⟩
instance jby2 : Tby Try.prog 2 8 := ⟨by2⟩
instance jag2 : Tag Try.prog 2 false := ⟨ag2⟩
instance jik2 : Tik Try.prog 2 .i64 := ⟨Try.underlying2⟩
theorem ze2 : zeroA Try.prog 2 = some (.i .i64 0) := by kernel_rfl
instance jze2 : Tze Try.prog 2 (.i .i64 0) := ⟨ze2⟩
theorem sz3 : szT Try.prog 3 = some 1 := by kernel_rfl
theorem by3 : byT Try.prog 3 = some 8 := by kernel_rfl
theorem ag3 : aggT Try.prog 3 = some false := by kernel_rfl
instance jsz3 : Tsz Try.prog 3 1 := ⟨sz3⟩
instance jby3 : Tby Try.prog 3 8 := ⟨by3⟩
instance jag3 : Tag Try.prog 3 false := ⟨ag3⟩
instance jik3 : Tik Try.prog 3 .i64 := ⟨Try.underlying3⟩
theorem ze3 : zeroA Try.prog 3 = some (.i .i64 0) := by kernel_rfl
instance jze3 : Tze Try.prog 3 (.i .i64 0) := ⟨ze3⟩
theorem sz4 : szT Try.prog 4 = some 1 := by kernel_rfl
theorem by4 : byT Try.prog 4 = some 1 := by kernel_rfl
theorem ag4 : aggT Try.prog 4 = some false := by kernel_rfl
instance jsz4 : Tsz Try.prog 4 1 := ⟨sz4⟩
instance jby4 : Tby Try.prog 4 1 := ⟨by4⟩
instance jag4 : Tag Try.prog 4 false := ⟨ag4⟩
instance jbo4 : Tbo Try.prog 4 := ⟨Try.underlying4⟩
theorem ze4 : zeroA Try.prog 4 = some (.b false) := by kernel_rfl
instance jze4 : Tze Try.prog 4 (.b false) := ⟨ze4⟩
theorem sz5 : szT Try.prog 5 = some 1 := by kernel_rfl
theorem by5 : byT Try.prog 5 = some 1 := by kernel_rfl
theorem ag5 : aggT Try.prog 5 = some false := by kernel_rfl
instance jsz5 : Tsz Try.prog 5 1 := ⟨sz5⟩
instance jby5 : Tby Try.prog 5 1 := ⟨by5⟩
instance jag5 : Tag Try.prog 5 false := ⟨ag5⟩
instance jik5 : Tik Try.prog 5 .u8 := ⟨Try.underlying5⟩
theorem ze5 : zeroA Try.prog 5 = some (.i .u8 0) := by kernel_rfl
instance jze5 : Tze Try.prog 5 (.i .u8 0) := ⟨ze5⟩
theorem sz11 : szT Try.prog 11 = some 1 := by kernel_rfl
theorem by11 : byT Try.prog 11 = some 16 := by kernel_rfl
theorem ag11 : aggT Try.prog 11 = some false := by kernel_rfl
instance jsz11 : Tsz Try.prog 11 1 := ⟨sz11⟩
instance jby11 : Tby Try.prog 11 16 := ⟨by11⟩
instance jag11 : Tag Try.prog 11 false := ⟨ag11⟩
instance jst11 : Tst Try.prog 11 := ⟨Try.underlying11⟩
theorem ze11 : zeroA Try.prog 11 = some (.s ⟨#[]⟩) := by kernel_rfl
instance jze11 : Tze Try.prog 11 (.s ⟨#[]⟩) := ⟨ze11⟩
theorem sz22 : szT Try.prog 22 = some 1 := by kernel_rfl
theorem by22 : byT Try.prog 22 = some 24 := by kernel_rfl
theorem ag22 : aggT Try.prog 22 = some false := by kernel_rfl
instance jsz22 : Tsz Try.prog 22 1 := ⟨sz22⟩
instance jby22 : Tby Try.prog 22 24 := ⟨by22⟩
instance jag22 : Tag Try.prog 22 false := ⟨ag22⟩
instance jsl22 : Tsl Try.prog 22 3 := ⟨Try.underlying22⟩
theorem ze22 : zeroA Try.prog 22 = some .ns := by kernel_rfl
instance jze22 : Tze Try.prog 22 (.ns) := ⟨ze22⟩
theorem sz30 : szT Try.prog 30 = some 1 := by kernel_rfl
theorem by30 : byT Try.prog 30 = some 24 := by kernel_rfl
theorem ag30 : aggT Try.prog 30 = some false := by kernel_rfl
instance jsz30 : Tsz Try.prog 30 1 := ⟨sz30⟩
instance jby30 : Tby Try.prog 30 24 := ⟨by30⟩
instance jag30 : Tag Try.prog 30 false := ⟨ag30⟩
instance jsl30 : Tsl Try.prog 30 22 := ⟨Try.underlying30⟩
theorem ze30 : zeroA Try.prog 30 = some .ns := by kernel_rfl
instance jze30 : Tze Try.prog 30 (.ns) := ⟨ze30⟩
theorem sz35 : szT Try.prog 35 = some 1 := by kernel_rfl
theorem by35 : byT Try.prog 35 = some 24 := by kernel_rfl
theorem ag35 : aggT Try.prog 35 = some false := by kernel_rfl
instance jsz35 : Tsz Try.prog 35 1 := ⟨sz35⟩
instance jby35 : Tby Try.prog 35 24 := ⟨by35⟩
instance jag35 : Tag Try.prog 35 false := ⟨ag35⟩
instance jsl35 : Tsl Try.prog 35 5 := ⟨Try.underlying35⟩
theorem ze35 : zeroA Try.prog 35 = some .ns := by kernel_rfl
instance jze35 : Tze Try.prog 35 (.ns) := ⟨ze35⟩
theorem sz49 : szT Try.prog 49 = some 2 := by kernel_rfl
theorem by49 : byT Try.prog 49 = some 48 := by kernel_rfl
theorem ag49 : aggT Try.prog 49 = some true := by kernel_rfl
instance jsz49 : Tsz Try.prog 49 2 := ⟨sz49⟩
instance jby49 : Tby Try.prog 49 48 := ⟨by49⟩
instance jag49 : Tag Try.prog 49 true := ⟨ag49⟩
theorem ze49 : zeroA Try.prog 49 = some (.agg [.ns, .ns]) := by kernel_rfl
instance jze49 : Tze Try.prog 49 (.agg [.ns, .ns]) := ⟨ze49⟩
theorem fl49_0 : fldA Try.prog 49 0 = some (0, 1, false) := by kernel_rfl
instance jfl49_0 : Tfl Try.prog 49 0 0 1 false := ⟨fl49_0⟩
theorem fl49_1 : fldA Try.prog 49 1 = some (1, 1, false) := by kernel_rfl
instance jfl49_1 : Tfl Try.prog 49 1 1 1 false := ⟨fl49_1⟩
theorem pa49 : plA Try.prog 49 = some [(0, 1), (1, 1)] := by kernel_rfl
instance jpl49 : Tpl Try.prog 49 [(0, 1), (1, 1)] := ⟨pa49⟩
theorem sz51 : szT Try.prog 51 = some 1 := by kernel_rfl
theorem by51 : byT Try.prog 51 = some 8 := by kernel_rfl
theorem ag51 : aggT Try.prog 51 = some false := by kernel_rfl
instance jsz51 : Tsz Try.prog 51 1 := ⟨sz51⟩
instance jby51 : Tby Try.prog 51 8 := ⟨by51⟩
instance jag51 : Tag Try.prog 51 false := ⟨ag51⟩
theorem ze51 : zeroA Try.prog 51 = some .nm := by kernel_rfl
instance jze51 : Tze Try.prog 51 (.nm) := ⟨ze51⟩
theorem sz58 : szT Try.prog 58 = some 1 := by kernel_rfl
theorem by58 : byT Try.prog 58 = some 8 := by kernel_rfl
theorem ag58 : aggT Try.prog 58 = some false := by kernel_rfl
instance jsz58 : Tsz Try.prog 58 1 := ⟨sz58⟩
instance jby58 : Tby Try.prog 58 8 := ⟨by58⟩
instance jag58 : Tag Try.prog 58 false := ⟨ag58⟩
theorem ze58 : zeroA Try.prog 58 = some .np := by kernel_rfl
instance jze58 : Tze Try.prog 58 (.np) := ⟨ze58⟩
theorem sz59 : szT Try.prog 59 = some 1 := by kernel_rfl
theorem by59 : byT Try.prog 59 = some 8 := by kernel_rfl
theorem ag59 : aggT Try.prog 59 = some false := by kernel_rfl
instance jsz59 : Tsz Try.prog 59 1 := ⟨sz59⟩
instance jby59 : Tby Try.prog 59 8 := ⟨by59⟩
instance jag59 : Tag Try.prog 59 false := ⟨ag59⟩
instance jik59 : Tik Try.prog 59 .u64 := ⟨Try.underlying59⟩
theorem ze59 : zeroA Try.prog 59 = some (.i .u64 0) := by kernel_rfl
instance jze59 : Tze Try.prog 59 (.i .u64 0) := ⟨ze59⟩
theorem sz61 : szT Try.prog 61 = some 3 := by kernel_rfl
theorem by61 : byT Try.prog 61 = some 40 := by kernel_rfl
theorem ag61 : aggT Try.prog 61 = some true := by kernel_rfl
instance jsz61 : Tsz Try.prog 61 3 := ⟨sz61⟩
instance jby61 : Tby Try.prog 61 40 := ⟨by61⟩
instance jag61 : Tag Try.prog 61 true := ⟨ag61⟩
theorem ze61 : zeroA Try.prog 61 = some (.agg [.ns, (.i .i64 0), (.i .u64 0)]) := by kernel_rfl
instance jze61 : Tze Try.prog 61 (.agg [.ns, (.i .i64 0), (.i .u64 0)]) := ⟨ze61⟩
theorem fl61_0 : fldA Try.prog 61 0 = some (0, 1, false) := by kernel_rfl
instance jfl61_0 : Tfl Try.prog 61 0 0 1 false := ⟨fl61_0⟩
theorem fl61_1 : fldA Try.prog 61 1 = some (1, 1, false) := by kernel_rfl
instance jfl61_1 : Tfl Try.prog 61 1 1 1 false := ⟨fl61_1⟩
theorem fl61_2 : fldA Try.prog 61 2 = some (2, 1, false) := by kernel_rfl
instance jfl61_2 : Tfl Try.prog 61 2 2 1 false := ⟨fl61_2⟩
theorem pa61 : plA Try.prog 61 = some [(0, 1), (1, 1), (2, 1)] := by kernel_rfl
instance jpl61 : Tpl Try.prog 61 [(0, 1), (1, 1), (2, 1)] := ⟨pa61⟩

/-- spec.l1In -/
def c62 : IC :=
  (.seq
  (.reg [
    ⟨some 6, .assign (.const (.bool false)), none⟩])
  (.seq
  (.reg [
    ⟨some 7, .move (.tmp 0), none⟩,
    ⟨some 8, .move (.tmp 1), none⟩,
    ⟨some 9, .binOp .geq 3 (.tmp 7) (.tmp 8) 3, none⟩,
    ⟨some 10, .move (.tmp 9), none⟩,
    ⟨some 11, .move (.tmp 0), some (10, true)⟩,
    ⟨some 12, .move (.tmp 2), some (10, true)⟩,
    ⟨some 13, .binOp .leq 3 (.tmp 11) (.tmp 12) 3, some (10, true)⟩,
    ⟨some 14, .pick (.tmp 10) (.tmp 13) (.const (.bool false)), none⟩,
    ⟨some 6, .assign (.tmp 14), none⟩])
  .ret))
theorem hd62 : Try.f62.body.map dec = some c62 := by kernel_rfl
theorem e62 {R : AV → AH → Prop} {h : AH} (x0 x1 x2 : AV) (H : h.wf → AI Try.prog c62 (RetQ Try.prog [.tmp 6] R) [x0, x1, x2, un, un, un, un, un, un, un, un, un, un, un, un] h) : AC Try.prog 62 [x0, x1, x2] h R :=
  AC_of' (rs := [.tmp 6]) Try.func62 (by kernel_rfl) hd62 Try.ntmps62 rfl H

/-- spec.shRoot -/
def c63 : IC :=
  (.seq
  (.reg [
    ⟨some 0, .alloc 49, none⟩])
  (.seq
  (.reg [
    ⟨some 1, .buildSlice 22 1 #[(0, .const (.int .i64 1))], none⟩,
    ⟨some 2, .buildSlice 30 1 #[(0, .tmp 1)], none⟩,
    ⟨some 3, .buildSlice 22 1 #[(0, .const (.int .i64 1))], none⟩,
    ⟨some 4, .build 49 #[(0, .tmp 2), (1, .tmp 3)], none⟩,
    ⟨none, .store 49 (.tmp 0) (.tmp 4), none⟩])
  .ret))
theorem hd63 : Try.f63.body.map dec = some c63 := by kernel_rfl
theorem e63 {R : AV → AH → Prop} {h : AH} (H : h.wf → AI Try.prog c63 (RetQ Try.prog [.cell 0 49] R) [un, un, un, un, un] h) : AC Try.prog 63 [] h R :=
  AC_of' (rs := [.cell 0 49]) Try.func63 (by kernel_rfl) hd63 Try.ntmps63 rfl H

/-- spec.l1Own -/
def c88 : IC :=
  (.seq
  (.reg [
    ⟨some 2, .assign (.const (.slice none 0 0)), none⟩])
  (.seq
  (.reg [
    ⟨some 3, .buildSlice 22 0 #[], none⟩,
    ⟨some 4, .move (.tmp 0), none⟩,
    ⟨some 5, .call { callee := .builtin .append, args := #[.tmp 3, .tmp 4], argTypes := #[22, 22] }, none⟩,
    ⟨some 2, .assign (.tmp 5), none⟩])
  .ret))
theorem hd88 : Try.f88.body.map dec = some c88 := by kernel_rfl
theorem e88 {R : AV → AH → Prop} {h : AH} (x0 : AV) (H : h.wf → AI Try.prog c88 (RetQ Try.prog [.tmp 2] R) [x0, un, un, un, un, un] h) : AC Try.prog 88 [x0] h R :=
  AC_of' (rs := [.tmp 2]) Try.func88 (by kernel_rfl) hd88 Try.ntmps88 rfl H

/-- spec.l1Has -/
def c90 : IC :=
  (.seq
  (.reg [
    ⟨some 4, .assign (.const (.bool false)), none⟩])
  (.seq
  (.seq
  (.reg [
    ⟨some 7, .move (.tmp 0), none⟩,
    ⟨some 8, .call { callee := .builtin .len, args := #[.tmp 7], argTypes := #[22] }, none⟩,
    ⟨some 9, .move (.const (.int .i64 0)), none⟩])
  (.block 0
  (.loop
    (.seq
    (.reg [
      ⟨some 10, .binOp .lss 3 (.tmp 9) (.tmp 8) 3, none⟩])
    (.seq
    (.cond (.tmp 10)
      .skip
      (.exit 0))
    (.seq
    (.block 1
    (.seq
    (.reg [
      ⟨some 11, .indexAddr 22 (.tmp 7) (.tmp 9), none⟩,
      ⟨some 12, .load 3 (.tmp 11), none⟩,
      ⟨some 6, .assign (.tmp 12), none⟩])
    (.seq
    (.reg [
      ⟨some 13, .move (.tmp 6), none⟩,
      ⟨some 14, .move (.tmp 1), none⟩,
      ⟨some 15, .binOp .eql 3 (.tmp 13) (.tmp 14) 3, none⟩])
    (.cond (.tmp 15)
      (.seq
      (.reg [
        ⟨some 4, .assign (.const (.bool true)), none⟩])
      .ret)
      .skip))))
    (.reg [
      ⟨some 16, .binOp .add 3 (.tmp 9) (.const (.int .i64 1)) 3, none⟩,
      ⟨some 9, .move (.tmp 16), none⟩])))))))
  (.seq
  (.reg [
    ⟨some 4, .assign (.const (.bool false)), none⟩])
  .ret)))
theorem hd90 : Try.f90.body.map dec = some c90 := by kernel_rfl
theorem e90 {R : AV → AH → Prop} {h : AH} (x0 x1 : AV) (H : h.wf → AI Try.prog c90 (RetQ Try.prog [.tmp 4] R) [x0, x1, un, un, un, un, un, un, un, un, un, un, un, un, un, un, un] h) : AC Try.prog 90 [x0, x1] h R :=
  AC_of' (rs := [.tmp 4]) Try.func90 (by kernel_rfl) hd90 Try.ntmps90 rfl H

/-- spec.l1Put -/
def c91 : IC :=
  (.seq
  (.reg [
    ⟨some 4, .assign (.const (.slice none 0 0)), none⟩])
  (.seq
  (.reg [
    ⟨some 5, .assign (.const (.int .i64 0)), none⟩])
  (.seq
  (.block 0
  (.loop
    (.seq
    (.seq
    (.reg [
      ⟨some 7, .move (.tmp 5), none⟩,
      ⟨some 8, .move (.tmp 0), none⟩,
      ⟨some 9, .call { callee := .builtin .len, args := #[.tmp 8], argTypes := #[22] }, none⟩,
      ⟨some 10, .binOp .lss 3 (.tmp 7) (.tmp 9) 3, none⟩,
      ⟨some 11, .move (.tmp 10), none⟩,
      ⟨some 12, .move (.tmp 0), some (11, true)⟩,
      ⟨some 13, .move (.tmp 5), some (11, true)⟩,
      ⟨some 14, .indexAddr 22 (.tmp 12) (.tmp 13), some (11, true)⟩,
      ⟨some 15, .load 3 (.tmp 14), some (11, true)⟩,
      ⟨some 16, .move (.tmp 1), some (11, true)⟩,
      ⟨some 17, .binOp .lss 3 (.tmp 15) (.tmp 16) 3, some (11, true)⟩,
      ⟨some 18, .pick (.tmp 11) (.tmp 17) (.const (.bool false)), none⟩])
    (.cond (.tmp 18)
      .skip
      (.exit 0)))
    (.block 1
    (.reg [
      ⟨some 19, .move (.tmp 5), none⟩,
      ⟨some 20, .binOp .add 3 (.tmp 19) (.const (.int .i64 1)) 3, none⟩,
      ⟨some 5, .assign (.tmp 20), none⟩])))))
  (.seq
  (.seq
  (.reg [
    ⟨some 21, .move (.tmp 5), none⟩,
    ⟨some 22, .move (.tmp 0), none⟩,
    ⟨some 23, .call { callee := .builtin .len, args := #[.tmp 22], argTypes := #[22] }, none⟩,
    ⟨some 24, .binOp .lss 3 (.tmp 21) (.tmp 23) 3, none⟩,
    ⟨some 25, .move (.tmp 24), none⟩,
    ⟨some 26, .move (.tmp 0), some (25, true)⟩,
    ⟨some 27, .move (.tmp 5), some (25, true)⟩,
    ⟨some 28, .indexAddr 22 (.tmp 26) (.tmp 27), some (25, true)⟩,
    ⟨some 29, .load 3 (.tmp 28), some (25, true)⟩,
    ⟨some 30, .move (.tmp 1), some (25, true)⟩,
    ⟨some 31, .binOp .eql 3 (.tmp 29) (.tmp 30) 3, some (25, true)⟩,
    ⟨some 32, .pick (.tmp 25) (.tmp 31) (.const (.bool false)), none⟩])
  (.cond (.tmp 32)
    (.seq
    (.reg [
      ⟨some 33, .move (.tmp 0), none⟩,
      ⟨some 4, .assign (.tmp 33), none⟩])
    .ret)
    .skip))
  (.seq
  (.reg [
    ⟨some 34, .buildSlice 22 0 #[], none⟩,
    ⟨some 35, .move (.tmp 0), none⟩,
    ⟨some 36, .move (.tmp 5), none⟩,
    ⟨some 37, .slice 22 (.tmp 35) none (some (.tmp 36)) none, none⟩,
    ⟨some 38, .call { callee := .builtin .append, args := #[.tmp 34, .tmp 37], argTypes := #[22, 22] }, none⟩,
    ⟨some 6, .assign (.tmp 38), none⟩])
  (.seq
  (.reg [
    ⟨some 39, .move (.tmp 6), none⟩,
    ⟨some 40, .move (.tmp 1), none⟩,
    ⟨some 41, .buildSlice 22 1 #[(0, .tmp 40)], none⟩,
    ⟨some 42, .call { callee := .builtin .append, args := #[.tmp 39, .tmp 41], argTypes := #[22, 22] }, none⟩,
    ⟨some 6, .assign (.tmp 42), none⟩])
  (.seq
  (.reg [
    ⟨some 43, .move (.tmp 6), none⟩,
    ⟨some 44, .move (.tmp 0), none⟩,
    ⟨some 45, .move (.tmp 5), none⟩,
    ⟨some 46, .slice 22 (.tmp 44) (some (.tmp 45)) none none, none⟩,
    ⟨some 47, .call { callee := .builtin .append, args := #[.tmp 43, .tmp 46], argTypes := #[22, 22] }, none⟩,
    ⟨some 4, .assign (.tmp 47), none⟩])
  .ret)))))))
theorem hd91 : Try.f91.body.map dec = some c91 := by kernel_rfl
theorem e91 {R : AV → AH → Prop} {h : AH} (x0 x1 : AV) (H : h.wf → AI Try.prog c91 (RetQ Try.prog [.tmp 4] R) [x0, x1, un, un, un, un, un, un, un, un, un, un, un, un, un, un, un, un, un, un, un, un, un, un, un, un, un, un, un, un, un, un, un, un, un, un, un, un, un, un, un, un, un, un, un, un, un, un] h) : AC Try.prog 91 [x0, x1] h R :=
  AC_of' (rs := [.tmp 4]) Try.func91 (by kernel_rfl) hd91 Try.ntmps91 rfl H

noncomputable def rg64_0 : Array Oper := rawAt Try.f64 0
-- NO ORDER
/-- (spec.shTree).grow -/
noncomputable def c64 : IC :=
  (.seq
  (.reg [
    ⟨some 1, .box 49 (.tmp 0), none⟩,
    ⟨some 2, .alloc 49, none⟩])
  (.seq
  (.reg [
    ⟨some 9, .fieldAddr 49 (.tmp 1) 1, none⟩,
    ⟨some 10, .load 22 (.tmp 9), none⟩,
    ⟨some 11, .build 49 #[(1, .tmp 10)], none⟩,
    ⟨some 3, .alloc 49, none⟩,
    ⟨none, .store 49 (.tmp 3) (.tmp 11), none⟩])
  (.seq
  (.seq
  (.reg [
    ⟨some 12, .fieldAddr 49 (.tmp 1) 0, none⟩,
    ⟨some 13, .load 30 (.tmp 12), none⟩,
    ⟨some 14, .call { callee := .builtin .len, args := #[.tmp 13], argTypes := #[30] }, none⟩,
    ⟨some 15, .move (.const (.int .i64 0)), none⟩])
  (.block 0
  (.loop
    (.seq
    (.reg [
      ⟨some 16, .binOp .lss 3 (.tmp 15) (.tmp 14) 3, none⟩])
    (.seq
    (.cond (.tmp 16)
      .skip
      (.exit 0))
    (.seq
    (.block 1
    (.seq
    (.reg [
      ⟨some 17, .indexAddr 30 (.tmp 13) (.tmp 15), none⟩,
      ⟨some 18, .load 22 (.tmp 17), none⟩,
      ⟨some 5, .assign (.tmp 18), none⟩])
    (.seq
    (.reg [
      ⟨some 19, .move (.tmp 5), none⟩,
      ⟨some 20, .move (.tmp 5), none⟩,
      ⟨some 21, .call { callee := .builtin .len, args := #[.tmp 20], argTypes := #[22] }, none⟩,
      ⟨some 22, .binOp .sub 3 (.tmp 21) (.const (.int .i64 1)) 3, none⟩,
      ⟨some 23, .indexAddr 22 (.tmp 19) (.tmp 22), none⟩,
      ⟨some 24, .load 3 (.tmp 23), none⟩,
      ⟨some 6, .assign (.tmp 24), none⟩])
    (.seq
    (.reg [
      ⟨some 25, .move (.tmp 5), none⟩,
      ⟨some 26, .call { callee := .builtin .len, args := #[.tmp 25], argTypes := #[22] }, none⟩,
      ⟨some 27, .move (.const (.int .i64 0)), none⟩])
    (.block 2
    (.loop
      (.seq
      (.reg [
        ⟨some 28, .binOp .lss 3 (.tmp 27) (.tmp 26) 3, none⟩])
      (.seq
      (.cond (.tmp 28)
        .skip
        (.exit 2))
      (.seq
      (.block 3
      (.seq
      (.reg [
        ⟨some 29, .indexAddr 22 (.tmp 25) (.tmp 27), none⟩,
        ⟨some 30, .load 3 (.tmp 29), none⟩,
        ⟨some 8, .assign (.tmp 30), none⟩])
      (.seq
      (.reg [
        ⟨some 31, .fieldAddr 49 (.tmp 3) 1, none⟩,
        ⟨some 32, .load 22 (.tmp 31), none⟩,
        ⟨some 33, .move (.tmp 6), none⟩,
        ⟨some 34, .move (.tmp 8), none⟩,
        ⟨some 35, .binOp .add 3 (.tmp 33) (.tmp 34) 3, none⟩,
        ⟨some 36, .call { callee := .value (.func 90), args := #[.tmp 32, .tmp 35], argTypes := #[22, 3] }, none⟩,
        ⟨some 37, .unOp .not 4 (.tmp 36), none⟩])
      (.cond (.tmp 37)
        (.seq
        (.reg [
          ⟨some 38, .fieldAddr 49 (.tmp 3) 1, none⟩,
          ⟨some 39, .load 22 (.tmp 38), none⟩,
          ⟨some 40, .move (.tmp 6), none⟩,
          ⟨some 41, .move (.tmp 8), none⟩,
          ⟨some 42, .binOp .add 3 (.tmp 40) (.tmp 41) 3, none⟩,
          ⟨some 43, .call { callee := .value (.func 91), args := #[.tmp 39, .tmp 42], argTypes := #[22, 3] }, none⟩,
          ⟨some 44, .fieldAddr 49 (.tmp 3) 1, none⟩,
          ⟨none, .store 22 (.tmp 44) (.tmp 43), none⟩])
        (.raw (.region 11 rg64_0 true)))
        .skip))))
      (.reg [
        ⟨some 57, .binOp .add 3 (.tmp 27) (.const (.int .i64 1)) 3, none⟩,
        ⟨some 27, .move (.tmp 57), none⟩]))))))))))
    (.reg [
      ⟨some 58, .binOp .add 3 (.tmp 15) (.const (.int .i64 1)) 3, none⟩,
      ⟨some 15, .move (.tmp 58), none⟩])))))))
  (.seq
  (.reg [
    ⟨some 59, .load 49 (.tmp 3), none⟩,
    ⟨none, .store 49 (.tmp 2) (.tmp 59), none⟩])
  .ret))))
theorem hd64 : Try.f64.body.map dec = some c64 := by kernel_rfl
theorem e64 {R : AV → AH → Prop} {h : AH} (x0 : AV) (H : h.wf → AI Try.prog c64 (RetQ Try.prog [.cell 2 49] R) [x0, un, un, un, un, un, un, un, un, un, un, un, un, un, un, un, un, un, un, un, un, un, un, un, un, un, un, un, un, un, un, un, un, un, un, un, un, un, un, un, un, un, un, un, un, un, un, un, un, un, un, un, un, un, un, un, un, un, un, un] h) : AC Try.prog 64 [x0] h R :=
  AC_of' (rs := [.cell 2 49]) Try.func64 (by kernel_rfl) hd64 Try.ntmps64 rfl H
theorem dk64_0 {h0 : AH} {L : List It} {Q : Exit → List AV → List It → Prop} {a : List AV} {id : Nat} (K : List (Nat × List AV)) (hK : ∀ x ∈ K, It.pt x.1 x.2 ∈ L) (H : LX Try.prog ⟨[8, 10, 12], K⟩ h0 L L (.c (⟨some 45, .fieldAddr 49 (.tmp 3) 0, none⟩, .p) <| .c (⟨some 47, .move (.tmp 5), none⟩, .p) <| .c (⟨some 49, .move (.tmp 6), none⟩, .p) <| .c (⟨some 50, .move (.tmp 8), none⟩, .p) <| .c (⟨some 51, .binOp .add 3 (.tmp 49) (.tmp 50) 3, none⟩, .p) <| .t (.c (⟨some 46, .load 30 (.tmp 45), none⟩, .e) <| .t (.c (⟨some 48, .call { callee := .value (.func 88), args := #[.tmp 47], argTypes := #[22] }, none⟩, .e) <| .c (⟨some 52, .buildSlice 22 1 #[(0, .tmp 51)], none⟩, .e) <| .c (⟨some 53, .call { callee := .builtin .append, args := #[.tmp 48, .tmp 52], argTypes := #[22, 22] }, none⟩, .f) <| .c (⟨some 54, .buildSlice 30 1 #[(0, .tmp 53)], none⟩, .e) <| .c (⟨some 55, .call { callee := .builtin .append, args := #[.tmp 46, .tmp 54], argTypes := #[30, 30] }, none⟩, .f) <| .c (⟨some 56, .fieldAddr 49 (.tmp 3) 0, none⟩, .p) <| .c (⟨none, .store 30 (.tmp 56) (.tmp 55), none⟩, .f) <| .n) (.c (⟨some 52, .buildSlice 22 1 #[(0, .tmp 51)], none⟩, .e) <| .c (⟨some 48, .call { callee := .value (.func 88), args := #[.tmp 47], argTypes := #[22] }, none⟩, .e) <| .c (⟨some 53, .call { callee := .builtin .append, args := #[.tmp 48, .tmp 52], argTypes := #[22, 22] }, none⟩, .f) <| .c (⟨some 54, .buildSlice 30 1 #[(0, .tmp 53)], none⟩, .e) <| .c (⟨some 55, .call { callee := .builtin .append, args := #[.tmp 46, .tmp 54], argTypes := #[30, 30] }, none⟩, .f) <| .c (⟨some 56, .fieldAddr 49 (.tmp 3) 0, none⟩, .p) <| .c (⟨none, .store 30 (.tmp 56) (.tmp 55), none⟩, .f) <| .n)) (.t (.c (⟨some 48, .call { callee := .value (.func 88), args := #[.tmp 47], argTypes := #[22] }, none⟩, .e) <| .t (.c (⟨some 46, .load 30 (.tmp 45), none⟩, .e) <| .c (⟨some 52, .buildSlice 22 1 #[(0, .tmp 51)], none⟩, .e) <| .c (⟨some 53, .call { callee := .builtin .append, args := #[.tmp 48, .tmp 52], argTypes := #[22, 22] }, none⟩, .f) <| .c (⟨some 54, .buildSlice 30 1 #[(0, .tmp 53)], none⟩, .e) <| .c (⟨some 55, .call { callee := .builtin .append, args := #[.tmp 46, .tmp 54], argTypes := #[30, 30] }, none⟩, .f) <| .c (⟨some 56, .fieldAddr 49 (.tmp 3) 0, none⟩, .p) <| .c (⟨none, .store 30 (.tmp 56) (.tmp 55), none⟩, .f) <| .n) (.c (⟨some 52, .buildSlice 22 1 #[(0, .tmp 51)], none⟩, .e) <| .t (.c (⟨some 46, .load 30 (.tmp 45), none⟩, .e) <| .c (⟨some 53, .call { callee := .builtin .append, args := #[.tmp 48, .tmp 52], argTypes := #[22, 22] }, none⟩, .f) <| .c (⟨some 54, .buildSlice 30 1 #[(0, .tmp 53)], none⟩, .e) <| .c (⟨some 55, .call { callee := .builtin .append, args := #[.tmp 46, .tmp 54], argTypes := #[30, 30] }, none⟩, .f) <| .c (⟨some 56, .fieldAddr 49 (.tmp 3) 0, none⟩, .p) <| .c (⟨none, .store 30 (.tmp 56) (.tmp 55), none⟩, .f) <| .n) (.c (⟨some 53, .call { callee := .builtin .append, args := #[.tmp 48, .tmp 52], argTypes := #[22, 22] }, none⟩, .f) <| .t (.c (⟨some 46, .load 30 (.tmp 45), none⟩, .e) <| .c (⟨some 54, .buildSlice 30 1 #[(0, .tmp 53)], none⟩, .e) <| .c (⟨some 55, .call { callee := .builtin .append, args := #[.tmp 46, .tmp 54], argTypes := #[30, 30] }, none⟩, .f) <| .c (⟨some 56, .fieldAddr 49 (.tmp 3) 0, none⟩, .p) <| .c (⟨none, .store 30 (.tmp 56) (.tmp 55), none⟩, .f) <| .n) (.c (⟨some 54, .buildSlice 30 1 #[(0, .tmp 53)], none⟩, .e) <| .c (⟨some 46, .load 30 (.tmp 45), none⟩, .e) <| .c (⟨some 55, .call { callee := .builtin .append, args := #[.tmp 46, .tmp 54], argTypes := #[30, 30] }, none⟩, .f) <| .c (⟨some 56, .fieldAddr 49 (.tmp 3) 0, none⟩, .p) <| .c (⟨none, .store 30 (.tmp 56) (.tmp 55), none⟩, .f) <| .n)))) (.c (⟨some 52, .buildSlice 22 1 #[(0, .tmp 51)], none⟩, .e) <| .t (.c (⟨some 46, .load 30 (.tmp 45), none⟩, .e) <| .c (⟨some 48, .call { callee := .value (.func 88), args := #[.tmp 47], argTypes := #[22] }, none⟩, .e) <| .c (⟨some 53, .call { callee := .builtin .append, args := #[.tmp 48, .tmp 52], argTypes := #[22, 22] }, none⟩, .f) <| .c (⟨some 54, .buildSlice 30 1 #[(0, .tmp 53)], none⟩, .e) <| .c (⟨some 55, .call { callee := .builtin .append, args := #[.tmp 46, .tmp 54], argTypes := #[30, 30] }, none⟩, .f) <| .c (⟨some 56, .fieldAddr 49 (.tmp 3) 0, none⟩, .p) <| .c (⟨none, .store 30 (.tmp 56) (.tmp 55), none⟩, .f) <| .n) (.c (⟨some 48, .call { callee := .value (.func 88), args := #[.tmp 47], argTypes := #[22] }, none⟩, .e) <| .t (.c (⟨some 46, .load 30 (.tmp 45), none⟩, .e) <| .c (⟨some 53, .call { callee := .builtin .append, args := #[.tmp 48, .tmp 52], argTypes := #[22, 22] }, none⟩, .f) <| .c (⟨some 54, .buildSlice 30 1 #[(0, .tmp 53)], none⟩, .e) <| .c (⟨some 55, .call { callee := .builtin .append, args := #[.tmp 46, .tmp 54], argTypes := #[30, 30] }, none⟩, .f) <| .c (⟨some 56, .fieldAddr 49 (.tmp 3) 0, none⟩, .p) <| .c (⟨none, .store 30 (.tmp 56) (.tmp 55), none⟩, .f) <| .n) (.c (⟨some 53, .call { callee := .builtin .append, args := #[.tmp 48, .tmp 52], argTypes := #[22, 22] }, none⟩, .f) <| .t (.c (⟨some 46, .load 30 (.tmp 45), none⟩, .e) <| .c (⟨some 54, .buildSlice 30 1 #[(0, .tmp 53)], none⟩, .e) <| .c (⟨some 55, .call { callee := .builtin .append, args := #[.tmp 46, .tmp 54], argTypes := #[30, 30] }, none⟩, .f) <| .c (⟨some 56, .fieldAddr 49 (.tmp 3) 0, none⟩, .p) <| .c (⟨none, .store 30 (.tmp 56) (.tmp 55), none⟩, .f) <| .n) (.c (⟨some 54, .buildSlice 30 1 #[(0, .tmp 53)], none⟩, .e) <| .c (⟨some 46, .load 30 (.tmp 45), none⟩, .e) <| .c (⟨some 55, .call { callee := .builtin .append, args := #[.tmp 46, .tmp 54], argTypes := #[30, 30] }, none⟩, .f) <| .c (⟨some 56, .fieldAddr 49 (.tmp 3) 0, none⟩, .p) <| .c (⟨none, .store 30 (.tmp 56) (.tmp 55), none⟩, .f) <| .n)))))) Q a) : LI Try.prog h0 L (.raw (.region id rg64_0 true)) Q a :=
  LI_drawK (.c (0, .p) <| .c (2, .p) <| .c (4, .p) <| .c (5, .p) <| .c (6, .p) <| .t (.c (1, .e) <| .t (.c (3, .e) <| .c (7, .e) <| .c (8, .f) <| .c (9, .e) <| .c (10, .f) <| .c (11, .p) <| .c (12, .f) <| .n) (.c (7, .e) <| .c (3, .e) <| .c (8, .f) <| .c (9, .e) <| .c (10, .f) <| .c (11, .p) <| .c (12, .f) <| .n)) (.t (.c (3, .e) <| .t (.c (1, .e) <| .c (7, .e) <| .c (8, .f) <| .c (9, .e) <| .c (10, .f) <| .c (11, .p) <| .c (12, .f) <| .n) (.c (7, .e) <| .t (.c (1, .e) <| .c (8, .f) <| .c (9, .e) <| .c (10, .f) <| .c (11, .p) <| .c (12, .f) <| .n) (.c (8, .f) <| .t (.c (1, .e) <| .c (9, .e) <| .c (10, .f) <| .c (11, .p) <| .c (12, .f) <| .n) (.c (9, .e) <| .c (1, .e) <| .c (10, .f) <| .c (11, .p) <| .c (12, .f) <| .n)))) (.c (7, .e) <| .t (.c (1, .e) <| .c (3, .e) <| .c (8, .f) <| .c (9, .e) <| .c (10, .f) <| .c (11, .p) <| .c (12, .f) <| .n) (.c (3, .e) <| .t (.c (1, .e) <| .c (8, .f) <| .c (9, .e) <| .c (10, .f) <| .c (11, .p) <| .c (12, .f) <| .n) (.c (8, .f) <| .t (.c (1, .e) <| .c (9, .e) <| .c (10, .f) <| .c (11, .p) <| .c (12, .f) <| .n) (.c (9, .e) <| .c (1, .e) <| .c (10, .f) <| .c (11, .p) <| .c (12, .f) <| .n)))))) [8, 10, 12] K hK (by kernel_rfl) (by kernel_rfl) (by kernel_rfl) H
theorem db64_0 {h0 : AH} {L : List It} {Q : Exit → List AV → List It → Prop} {a : List AV} {id : Nat} (K : List (Nat × List AV)) (hK : ∀ x ∈ K, It.pt x.1 x.2 ∈ L) (H : LX Try.prog ⟨[3, 7, 8, 9, 10, 12], K⟩ h0 L L (.c (⟨some 45, .fieldAddr 49 (.tmp 3) 0, none⟩, .p) <| .c (⟨some 47, .move (.tmp 5), none⟩, .p) <| .c (⟨some 49, .move (.tmp 6), none⟩, .p) <| .c (⟨some 50, .move (.tmp 8), none⟩, .p) <| .c (⟨some 51, .binOp .add 3 (.tmp 49) (.tmp 50) 3, none⟩, .p) <| .t (.c (⟨some 46, .load 30 (.tmp 45), none⟩, .e) <| .t (.c (⟨some 48, .call { callee := .value (.func 88), args := #[.tmp 47], argTypes := #[22] }, none⟩, .f) <| .c (⟨some 52, .buildSlice 22 1 #[(0, .tmp 51)], none⟩, .f) <| .c (⟨some 53, .call { callee := .builtin .append, args := #[.tmp 48, .tmp 52], argTypes := #[22, 22] }, none⟩, .f) <| .c (⟨some 54, .buildSlice 30 1 #[(0, .tmp 53)], none⟩, .f) <| .c (⟨some 55, .call { callee := .builtin .append, args := #[.tmp 46, .tmp 54], argTypes := #[30, 30] }, none⟩, .f) <| .c (⟨some 56, .fieldAddr 49 (.tmp 3) 0, none⟩, .p) <| .c (⟨none, .store 30 (.tmp 56) (.tmp 55), none⟩, .f) <| .n) (.c (⟨some 52, .buildSlice 22 1 #[(0, .tmp 51)], none⟩, .f) <| .c (⟨some 48, .call { callee := .value (.func 88), args := #[.tmp 47], argTypes := #[22] }, none⟩, .f) <| .c (⟨some 53, .call { callee := .builtin .append, args := #[.tmp 48, .tmp 52], argTypes := #[22, 22] }, none⟩, .f) <| .c (⟨some 54, .buildSlice 30 1 #[(0, .tmp 53)], none⟩, .f) <| .c (⟨some 55, .call { callee := .builtin .append, args := #[.tmp 46, .tmp 54], argTypes := #[30, 30] }, none⟩, .f) <| .c (⟨some 56, .fieldAddr 49 (.tmp 3) 0, none⟩, .p) <| .c (⟨none, .store 30 (.tmp 56) (.tmp 55), none⟩, .f) <| .n)) (.t (.c (⟨some 48, .call { callee := .value (.func 88), args := #[.tmp 47], argTypes := #[22] }, none⟩, .f) <| .t (.c (⟨some 46, .load 30 (.tmp 45), none⟩, .e) <| .c (⟨some 52, .buildSlice 22 1 #[(0, .tmp 51)], none⟩, .f) <| .c (⟨some 53, .call { callee := .builtin .append, args := #[.tmp 48, .tmp 52], argTypes := #[22, 22] }, none⟩, .f) <| .c (⟨some 54, .buildSlice 30 1 #[(0, .tmp 53)], none⟩, .f) <| .c (⟨some 55, .call { callee := .builtin .append, args := #[.tmp 46, .tmp 54], argTypes := #[30, 30] }, none⟩, .f) <| .c (⟨some 56, .fieldAddr 49 (.tmp 3) 0, none⟩, .p) <| .c (⟨none, .store 30 (.tmp 56) (.tmp 55), none⟩, .f) <| .n) (.c (⟨some 52, .buildSlice 22 1 #[(0, .tmp 51)], none⟩, .f) <| .t (.c (⟨some 46, .load 30 (.tmp 45), none⟩, .e) <| .c (⟨some 53, .call { callee := .builtin .append, args := #[.tmp 48, .tmp 52], argTypes := #[22, 22] }, none⟩, .f) <| .c (⟨some 54, .buildSlice 30 1 #[(0, .tmp 53)], none⟩, .f) <| .c (⟨some 55, .call { callee := .builtin .append, args := #[.tmp 46, .tmp 54], argTypes := #[30, 30] }, none⟩, .f) <| .c (⟨some 56, .fieldAddr 49 (.tmp 3) 0, none⟩, .p) <| .c (⟨none, .store 30 (.tmp 56) (.tmp 55), none⟩, .f) <| .n) (.c (⟨some 53, .call { callee := .builtin .append, args := #[.tmp 48, .tmp 52], argTypes := #[22, 22] }, none⟩, .f) <| .t (.c (⟨some 46, .load 30 (.tmp 45), none⟩, .e) <| .c (⟨some 54, .buildSlice 30 1 #[(0, .tmp 53)], none⟩, .f) <| .c (⟨some 55, .call { callee := .builtin .append, args := #[.tmp 46, .tmp 54], argTypes := #[30, 30] }, none⟩, .f) <| .c (⟨some 56, .fieldAddr 49 (.tmp 3) 0, none⟩, .p) <| .c (⟨none, .store 30 (.tmp 56) (.tmp 55), none⟩, .f) <| .n) (.c (⟨some 54, .buildSlice 30 1 #[(0, .tmp 53)], none⟩, .f) <| .c (⟨some 46, .load 30 (.tmp 45), none⟩, .e) <| .c (⟨some 55, .call { callee := .builtin .append, args := #[.tmp 46, .tmp 54], argTypes := #[30, 30] }, none⟩, .f) <| .c (⟨some 56, .fieldAddr 49 (.tmp 3) 0, none⟩, .p) <| .c (⟨none, .store 30 (.tmp 56) (.tmp 55), none⟩, .f) <| .n)))) (.c (⟨some 52, .buildSlice 22 1 #[(0, .tmp 51)], none⟩, .f) <| .t (.c (⟨some 46, .load 30 (.tmp 45), none⟩, .e) <| .c (⟨some 48, .call { callee := .value (.func 88), args := #[.tmp 47], argTypes := #[22] }, none⟩, .f) <| .c (⟨some 53, .call { callee := .builtin .append, args := #[.tmp 48, .tmp 52], argTypes := #[22, 22] }, none⟩, .f) <| .c (⟨some 54, .buildSlice 30 1 #[(0, .tmp 53)], none⟩, .f) <| .c (⟨some 55, .call { callee := .builtin .append, args := #[.tmp 46, .tmp 54], argTypes := #[30, 30] }, none⟩, .f) <| .c (⟨some 56, .fieldAddr 49 (.tmp 3) 0, none⟩, .p) <| .c (⟨none, .store 30 (.tmp 56) (.tmp 55), none⟩, .f) <| .n) (.c (⟨some 48, .call { callee := .value (.func 88), args := #[.tmp 47], argTypes := #[22] }, none⟩, .f) <| .t (.c (⟨some 46, .load 30 (.tmp 45), none⟩, .e) <| .c (⟨some 53, .call { callee := .builtin .append, args := #[.tmp 48, .tmp 52], argTypes := #[22, 22] }, none⟩, .f) <| .c (⟨some 54, .buildSlice 30 1 #[(0, .tmp 53)], none⟩, .f) <| .c (⟨some 55, .call { callee := .builtin .append, args := #[.tmp 46, .tmp 54], argTypes := #[30, 30] }, none⟩, .f) <| .c (⟨some 56, .fieldAddr 49 (.tmp 3) 0, none⟩, .p) <| .c (⟨none, .store 30 (.tmp 56) (.tmp 55), none⟩, .f) <| .n) (.c (⟨some 53, .call { callee := .builtin .append, args := #[.tmp 48, .tmp 52], argTypes := #[22, 22] }, none⟩, .f) <| .t (.c (⟨some 46, .load 30 (.tmp 45), none⟩, .e) <| .c (⟨some 54, .buildSlice 30 1 #[(0, .tmp 53)], none⟩, .f) <| .c (⟨some 55, .call { callee := .builtin .append, args := #[.tmp 46, .tmp 54], argTypes := #[30, 30] }, none⟩, .f) <| .c (⟨some 56, .fieldAddr 49 (.tmp 3) 0, none⟩, .p) <| .c (⟨none, .store 30 (.tmp 56) (.tmp 55), none⟩, .f) <| .n) (.c (⟨some 54, .buildSlice 30 1 #[(0, .tmp 53)], none⟩, .f) <| .c (⟨some 46, .load 30 (.tmp 45), none⟩, .e) <| .c (⟨some 55, .call { callee := .builtin .append, args := #[.tmp 46, .tmp 54], argTypes := #[30, 30] }, none⟩, .f) <| .c (⟨some 56, .fieldAddr 49 (.tmp 3) 0, none⟩, .p) <| .c (⟨none, .store 30 (.tmp 56) (.tmp 55), none⟩, .f) <| .n)))))) Q a) : LI Try.prog h0 L (.raw (.region id rg64_0 true)) Q a :=
  LI_drawK (.c (0, .p) <| .c (2, .p) <| .c (4, .p) <| .c (5, .p) <| .c (6, .p) <| .t (.c (1, .e) <| .t (.c (3, .f) <| .c (7, .f) <| .c (8, .f) <| .c (9, .f) <| .c (10, .f) <| .c (11, .p) <| .c (12, .f) <| .n) (.c (7, .f) <| .c (3, .f) <| .c (8, .f) <| .c (9, .f) <| .c (10, .f) <| .c (11, .p) <| .c (12, .f) <| .n)) (.t (.c (3, .f) <| .t (.c (1, .e) <| .c (7, .f) <| .c (8, .f) <| .c (9, .f) <| .c (10, .f) <| .c (11, .p) <| .c (12, .f) <| .n) (.c (7, .f) <| .t (.c (1, .e) <| .c (8, .f) <| .c (9, .f) <| .c (10, .f) <| .c (11, .p) <| .c (12, .f) <| .n) (.c (8, .f) <| .t (.c (1, .e) <| .c (9, .f) <| .c (10, .f) <| .c (11, .p) <| .c (12, .f) <| .n) (.c (9, .f) <| .c (1, .e) <| .c (10, .f) <| .c (11, .p) <| .c (12, .f) <| .n)))) (.c (7, .f) <| .t (.c (1, .e) <| .c (3, .f) <| .c (8, .f) <| .c (9, .f) <| .c (10, .f) <| .c (11, .p) <| .c (12, .f) <| .n) (.c (3, .f) <| .t (.c (1, .e) <| .c (8, .f) <| .c (9, .f) <| .c (10, .f) <| .c (11, .p) <| .c (12, .f) <| .n) (.c (8, .f) <| .t (.c (1, .e) <| .c (9, .f) <| .c (10, .f) <| .c (11, .p) <| .c (12, .f) <| .n) (.c (9, .f) <| .c (1, .e) <| .c (10, .f) <| .c (11, .p) <| .c (12, .f) <| .n)))))) [3, 7, 8, 9, 10, 12] K hK (by kernel_rfl) (by kernel_rfl) (by kernel_rfl) H

/-- spec.TreeLevel -/
def c20 : IC :=
  (.seq
  (.reg [
    ⟨some 2, .assign (.const (.slice none 0 0)), none⟩,
    ⟨some 3, .assign (.const (.bool false)), none⟩])
  (.seq
  (.seq
  (.reg [
    ⟨some 8, .move (.tmp 0), none⟩,
    ⟨some 9, .call { callee := .value (.func 62), args := #[.tmp 8, .const (.int .i64 0), .const (.int .i64 8)], argTypes := #[3, 3, 3] }, none⟩,
    ⟨some 10, .unOp .not 4 (.tmp 9), none⟩])
  (.cond (.tmp 10)
    (.seq
    (.reg [
      ⟨some 2, .assign (.const (.slice none 0 0)), none⟩,
      ⟨some 3, .assign (.const (.bool false)), none⟩])
    .ret)
    .skip))
  (.seq
  (.reg [
    ⟨some 11, .call { callee := .value (.func 63), args := #[], argTypes := #[] }, none⟩,
    ⟨some 4, .alloc 49, none⟩,
    ⟨none, .store 49 (.tmp 4) (.tmp 11), none⟩])
  (.seq
  (.block 0
  (.loop
    (.seq
    (.seq
    (.reg [
      ⟨some 12, .move (.tmp 0), none⟩,
      ⟨some 13, .binOp .gtr 3 (.tmp 12) (.const (.int .i64 0)) 3, none⟩])
    (.cond (.tmp 13)
      .skip
      (.exit 0)))
    (.seq
    (.block 1
    (.reg [
      ⟨some 16, .load 49 (.tmp 4), none⟩,
      ⟨some 17, .call { callee := .value (.func 64), args := #[.tmp 16], argTypes := #[49] }, none⟩,
      ⟨none, .store 49 (.tmp 4) (.tmp 17), none⟩]))
    (.reg [
      ⟨some 14, .move (.tmp 0), none⟩,
      ⟨some 15, .binOp .sub 3 (.tmp 14) (.const (.int .i64 1)) 3, none⟩,
      ⟨some 0, .assign (.tmp 15), none⟩])))))
  (.seq
  (.reg [
    ⟨some 5, .assign (.const (.slice none 0 0)), none⟩])
  (.seq
  (.seq
  (.reg [
    ⟨some 18, .fieldAddr 49 (.tmp 4) 0, none⟩,
    ⟨some 19, .load 30 (.tmp 18), none⟩,
    ⟨some 20, .call { callee := .builtin .len, args := #[.tmp 19], argTypes := #[30] }, none⟩,
    ⟨some 21, .move (.const (.int .i64 0)), none⟩])
  (.block 2
  (.loop
    (.seq
    (.reg [
      ⟨some 22, .binOp .lss 3 (.tmp 21) (.tmp 20) 3, none⟩])
    (.seq
    (.cond (.tmp 22)
      .skip
      (.exit 2))
    (.seq
    (.block 3
    (.seq
    (.reg [
      ⟨some 23, .indexAddr 30 (.tmp 19) (.tmp 21), none⟩,
      ⟨some 24, .load 22 (.tmp 23), none⟩,
      ⟨some 7, .assign (.tmp 24), none⟩])
    (.reg [
      ⟨some 25, .move (.tmp 5), none⟩,
      ⟨some 26, .move (.tmp 7), none⟩,
      ⟨some 27, .move (.tmp 7), none⟩,
      ⟨some 28, .call { callee := .builtin .len, args := #[.tmp 27], argTypes := #[22] }, none⟩,
      ⟨some 29, .binOp .sub 3 (.tmp 28) (.const (.int .i64 1)) 3, none⟩,
      ⟨some 30, .indexAddr 22 (.tmp 26) (.tmp 29), none⟩,
      ⟨some 31, .load 3 (.tmp 30), none⟩,
      ⟨some 32, .buildSlice 22 1 #[(0, .tmp 31)], none⟩,
      ⟨some 33, .call { callee := .builtin .append, args := #[.tmp 25, .tmp 32], argTypes := #[22, 22] }, none⟩,
      ⟨some 5, .assign (.tmp 33), none⟩])))
    (.reg [
      ⟨some 34, .binOp .add 3 (.tmp 21) (.const (.int .i64 1)) 3, none⟩,
      ⟨some 21, .move (.tmp 34), none⟩])))))))
  (.seq
  (.reg [
    ⟨some 35, .move (.tmp 5), none⟩,
    ⟨some 2, .assign (.tmp 35), none⟩,
    ⟨some 3, .assign (.const (.bool true)), none⟩])
  .ret)))))))
theorem hd20 : Try.f20.body.map dec = some c20 := by kernel_rfl
theorem e20 {R : AV → AH → Prop} {h : AH} (x0 : AV) (H : h.wf → AI Try.prog c20 (RetQ Try.prog [.tmp 2, .tmp 3] R) [x0, un, un, un, un, un, un, un, un, un, un, un, un, un, un, un, un, un, un, un, un, un, un, un, un, un, un, un, un, un, un, un, un, un, un, un] h) : AC Try.prog 20 [x0] h R :=
  AC_of' (rs := [.tmp 2, .tmp 3]) Try.func20 (by kernel_rfl) hd20 Try.ntmps20 rfl H

/-- impl.in -/
def c65 : IC :=
  (.seq
  (.reg [
    ⟨some 6, .assign (.const (.bool false)), none⟩])
  (.seq
  (.reg [
    ⟨some 7, .move (.tmp 0), none⟩,
    ⟨some 8, .move (.tmp 1), none⟩,
    ⟨some 9, .binOp .geq 3 (.tmp 7) (.tmp 8) 3, none⟩,
    ⟨some 10, .move (.tmp 9), none⟩,
    ⟨some 11, .move (.tmp 0), some (10, true)⟩,
    ⟨some 12, .move (.tmp 2), some (10, true)⟩,
    ⟨some 13, .binOp .leq 3 (.tmp 11) (.tmp 12) 3, some (10, true)⟩,
    ⟨some 14, .pick (.tmp 10) (.tmp 13) (.const (.bool false)), none⟩,
    ⟨some 6, .assign (.tmp 14), none⟩])
  .ret))
theorem hd65 : Try.f65.body.map dec = some c65 := by kernel_rfl
theorem e65 {R : AV → AH → Prop} {h : AH} (x0 x1 x2 : AV) (H : h.wf → AI Try.prog c65 (RetQ Try.prog [.tmp 6] R) [x0, x1, x2, un, un, un, un, un, un, un, un, un, un, un, un] h) : AC Try.prog 65 [x0, x1, x2] h R :=
  AC_of' (rs := [.tmp 6]) Try.func65 (by kernel_rfl) hd65 Try.ntmps65 rfl H

/-- slices.Clone[[]int,int] -/
def c72 : IC :=
  (.seq
  (.reg [
    ⟨some 2, .assign (.const (.slice none 0 0)), none⟩])
  (.seq
  (.seq
  (.reg [
    ⟨some 3, .move (.tmp 0), none⟩,
    ⟨some 4, .binOp .eql 22 (.tmp 3) (.const (.slice none 0 0)) 22, none⟩])
  (.cond (.tmp 4)
    (.seq
    (.reg [
      ⟨some 2, .assign (.const (.slice none 0 0)), none⟩])
    .ret)
    .skip))
  (.seq
  (.reg [
    ⟨some 5, .buildSlice 22 0 #[], none⟩,
    ⟨some 6, .move (.tmp 0), none⟩,
    ⟨some 7, .call { callee := .builtin .append, args := #[.tmp 5, .tmp 6], argTypes := #[22, 22] }, none⟩,
    ⟨some 2, .assign (.tmp 7), none⟩])
  .ret)))
theorem hd72 : Try.f72.body.map dec = some c72 := by kernel_rfl
theorem e72 {R : AV → AH → Prop} {h : AH} (x0 : AV) (H : h.wf → AI Try.prog c72 (RetQ Try.prog [.tmp 2] R) [x0, un, un, un, un, un, un, un] h) : AC Try.prog 72 [x0] h R :=
  AC_of' (rs := [.tmp 2]) Try.func72 (by kernel_rfl) hd72 Try.ntmps72 rfl H

/-- impl.treeWays -/
def c66 : IC :=
  (.seq
  (.reg [
    ⟨some 2, .assign (.const (.map none)), none⟩,
    ⟨some 3, .assign (.const (.slice none 0 0)), none⟩])
  (.seq
  (.reg [
    ⟨some 12, .makeMap 51 none, none⟩,
    ⟨some 13, .buildSlice 22 1 #[(0, .const (.int .i64 1))], none⟩,
    ⟨none, .insert 51 (.tmp 12) (.const (.int .i64 1)) (.tmp 13), none⟩,
    ⟨some 14, .move (.tmp 12), none⟩,
    ⟨some 15, .buildSlice 22 1 #[(0, .const (.int .i64 1))], none⟩,
    ⟨some 16, .buildSlice 30 1 #[(0, .tmp 15)], none⟩,
    ⟨some 4, .assign (.tmp 14), none⟩,
    ⟨some 5, .assign (.tmp 16), none⟩])
  (.block 0
  (.loop
    (.block 1
    (.seq
    (.reg [
      ⟨some 17, .buildSlice 22 0 #[], none⟩,
      ⟨some 6, .assign (.tmp 17), none⟩])
    (.seq
    (.seq
    (.reg [
      ⟨some 18, .move (.tmp 5), none⟩,
      ⟨some 19, .move (.tmp 5), none⟩,
      ⟨some 20, .call { callee := .builtin .len, args := #[.tmp 19], argTypes := #[30] }, none⟩,
      ⟨some 21, .binOp .sub 3 (.tmp 20) (.const (.int .i64 1)) 3, none⟩,
      ⟨some 22, .indexAddr 30 (.tmp 18) (.tmp 21), none⟩,
      ⟨some 23, .load 22 (.tmp 22), none⟩,
      ⟨some 24, .call { callee := .builtin .len, args := #[.tmp 23], argTypes := #[22] }, none⟩,
      ⟨some 25, .move (.const (.int .i64 0)), none⟩])
    (.block 2
    (.loop
      (.seq
      (.reg [
        ⟨some 26, .binOp .lss 3 (.tmp 25) (.tmp 24) 3, none⟩])
      (.seq
      (.cond (.tmp 26)
        .skip
        (.exit 2))
      (.seq
      (.block 3
      (.seq
      (.reg [
        ⟨some 27, .indexAddr 22 (.tmp 23) (.tmp 25), none⟩,
        ⟨some 28, .load 3 (.tmp 27), none⟩,
        ⟨some 8, .assign (.tmp 28), none⟩])
      (.seq
      (.reg [
        ⟨some 29, .move (.tmp 4), none⟩,
        ⟨some 30, .move (.tmp 8), none⟩,
        ⟨some 31, .lookup 51 (.tmp 29) (.tmp 30) false, none⟩,
        ⟨some 32, .call { callee := .builtin .len, args := #[.tmp 31], argTypes := #[22] }, none⟩,
        ⟨some 33, .move (.const (.int .i64 0)), none⟩])
      (.block 4
      (.loop
        (.seq
        (.reg [
          ⟨some 34, .binOp .lss 3 (.tmp 33) (.tmp 32) 3, none⟩])
        (.seq
        (.cond (.tmp 34)
          .skip
          (.exit 4))
        (.seq
        (.block 5
        (.seq
        (.reg [
          ⟨some 35, .indexAddr 22 (.tmp 31) (.tmp 33), none⟩,
          ⟨some 36, .load 3 (.tmp 35), none⟩,
          ⟨some 10, .assign (.tmp 36), none⟩])
        (.seq
        (.reg [
          ⟨some 37, .move (.tmp 8), none⟩,
          ⟨some 38, .move (.tmp 10), none⟩,
          ⟨some 39, .binOp .add 3 (.tmp 37) (.tmp 38) 3, none⟩,
          ⟨some 11, .assign (.tmp 39), none⟩])
        (.seq
        (.reg [
          ⟨some 40, .move (.tmp 11), none⟩,
          ⟨some 41, .move (.tmp 0), none⟩,
          ⟨some 42, .binOp .leq 3 (.tmp 40) (.tmp 41) 3, none⟩,
          ⟨some 43, .move (.tmp 42), none⟩,
          ⟨some 44, .move (.tmp 4), some (43, true)⟩,
          ⟨some 45, .move (.tmp 11), some (43, true)⟩,
          ⟨some 46, .lookup 51 (.tmp 44) (.tmp 45) false, some (43, true)⟩,
          ⟨some 47, .binOp .eql 22 (.tmp 46) (.const (.slice none 0 0)) 22, some (43, true)⟩,
          ⟨some 48, .pick (.tmp 43) (.tmp 47) (.const (.bool false)), none⟩])
        (.cond (.tmp 48)
          (.seq
          (.reg [
            ⟨some 49, .move (.tmp 4), none⟩,
            ⟨some 50, .move (.tmp 11), none⟩,
            ⟨some 51, .move (.tmp 4), none⟩,
            ⟨some 52, .move (.tmp 8), none⟩,
            ⟨some 53, .lookup 51 (.tmp 51) (.tmp 52) false, none⟩,
            ⟨some 54, .call { callee := .value (.func 72), args := #[.tmp 53], argTypes := #[22] }, none⟩,
            ⟨some 55, .move (.tmp 11), none⟩,
            ⟨some 56, .buildSlice 22 1 #[(0, .tmp 55)], none⟩,
            ⟨some 57, .call { callee := .builtin .append, args := #[.tmp 54, .tmp 56], argTypes := #[22, 22] }, none⟩,
            ⟨none, .mapUpdate 51 (.tmp 49) (.tmp 50) (.tmp 57), none⟩])
          (.reg [
            ⟨some 58, .move (.tmp 6), none⟩,
            ⟨some 59, .move (.tmp 11), none⟩,
            ⟨some 60, .buildSlice 22 1 #[(0, .tmp 59)], none⟩,
            ⟨some 61, .call { callee := .builtin .append, args := #[.tmp 58, .tmp 60], argTypes := #[22, 22] }, none⟩,
            ⟨some 6, .assign (.tmp 61), none⟩]))
          .skip)))))
        (.reg [
          ⟨some 62, .binOp .add 3 (.tmp 33) (.const (.int .i64 1)) 3, none⟩,
          ⟨some 33, .move (.tmp 62), none⟩])))))))))
      (.reg [
        ⟨some 63, .binOp .add 3 (.tmp 25) (.const (.int .i64 1)) 3, none⟩,
        ⟨some 25, .move (.tmp 63), none⟩])))))))
    (.seq
    (.seq
    (.reg [
      ⟨some 64, .move (.tmp 6), none⟩,
      ⟨some 65, .call { callee := .builtin .len, args := #[.tmp 64], argTypes := #[22] }, none⟩,
      ⟨some 66, .binOp .eql 3 (.tmp 65) (.const (.int .i64 0)) 3, none⟩])
    (.cond (.tmp 66)
      (.seq
      (.reg [
        ⟨some 67, .move (.tmp 4), none⟩,
        ⟨some 68, .move (.tmp 5), none⟩,
        ⟨some 2, .assign (.tmp 67), none⟩,
        ⟨some 3, .assign (.tmp 68), none⟩])
      .ret)
      .skip))
    (.reg [
      ⟨some 69, .move (.tmp 5), none⟩,
      ⟨some 70, .move (.tmp 6), none⟩,
      ⟨some 71, .buildSlice 30 1 #[(0, .tmp 70)], none⟩,
      ⟨some 72, .call { callee := .builtin .append, args := #[.tmp 69, .tmp 71], argTypes := #[30, 30] }, none⟩,
      ⟨some 5, .assign (.tmp 72), none⟩])))))))))
theorem hd66 : Try.f66.body.map dec = some c66 := by kernel_rfl
theorem e66 {R : AV → AH → Prop} {h : AH} (x0 : AV) (H : h.wf → AI Try.prog c66 (RetQ Try.prog [.tmp 2, .tmp 3] R) [x0, un, un, un, un, un, un, un, un, un, un, un, un, un, un, un, un, un, un, un, un, un, un, un, un, un, un, un, un, un, un, un, un, un, un, un, un, un, un, un, un, un, un, un, un, un, un, un, un, un, un, un, un, un, un, un, un, un, un, un, un, un, un, un, un, un, un, un, un, un, un, un, un] h) : AC Try.prog 66 [x0] h R :=
  AC_of' (rs := [.tmp 2, .tmp 3]) Try.func66 (by kernel_rfl) hd66 Try.ntmps66 rfl H

/-- impl.TreeLevel -/
def c21 : IC :=
  (.seq
  (.reg [
    ⟨some 2, .assign (.const (.slice none 0 0)), none⟩,
    ⟨some 3, .assign (.const (.bool false)), none⟩])
  (.seq
  (.seq
  (.reg [
    ⟨some 6, .move (.tmp 0), none⟩,
    ⟨some 7, .call { callee := .value (.func 65), args := #[.tmp 6, .const (.int .i64 0), .const (.int .i64 8)], argTypes := #[3, 3, 3] }, none⟩,
    ⟨some 8, .unOp .not 4 (.tmp 7), none⟩])
  (.cond (.tmp 8)
    (.seq
    (.reg [
      ⟨some 2, .assign (.const (.slice none 0 0)), none⟩,
      ⟨some 3, .assign (.const (.bool false)), none⟩])
    .ret)
    .skip))
  (.seq
  (.reg [
    ⟨some 10, .call { callee := .value (.func 66), args := #[.const (.int .i64 256)], argTypes := #[3] }, none⟩,
    ⟨some 9, .move (.tmp 10), none⟩,
    ⟨some 11, .extract (.tmp 9) 0, none⟩,
    ⟨some 12, .extract (.tmp 9) 1, none⟩,
    ⟨some 4, .assign (.tmp 11), none⟩,
    ⟨some 5, .assign (.tmp 12), none⟩])
  (.seq
  (.reg [
    ⟨some 13, .move (.tmp 5), none⟩,
    ⟨some 14, .move (.tmp 0), none⟩,
    ⟨some 15, .indexAddr 30 (.tmp 13) (.tmp 14), none⟩,
    ⟨some 16, .load 22 (.tmp 15), none⟩,
    ⟨some 2, .assign (.tmp 16), none⟩,
    ⟨some 3, .assign (.const (.bool true)), none⟩])
  .ret))))
theorem hd21 : Try.f21.body.map dec = some c21 := by kernel_rfl
theorem e21 {R : AV → AH → Prop} {h : AH} (x0 : AV) (H : h.wf → AI Try.prog c21 (RetQ Try.prog [.tmp 2, .tmp 3] R) [x0, un, un, un, un, un, un, un, un, un, un, un, un, un, un, un, un] h) : AC Try.prog 21 [x0] h R :=
  AC_of' (rs := [.tmp 2, .tmp 3]) Try.func21 (by kernel_rfl) hd21 Try.ntmps21 rfl H

/-- spec.shNumber -/
def c56 : IC :=
  (.seq
  (.reg [
    ⟨some 2, .assign (.const (.bool false)), none⟩])
  (.seq
  (.reg [
    ⟨some 3, .move (.tmp 0), none⟩,
    ⟨some 4, .call { callee := .value (.func 62), args := #[.tmp 3, .const (.int .i64 1), .const (.int .i64 100)], argTypes := #[3, 3, 3] }, none⟩,
    ⟨some 2, .assign (.tmp 4), none⟩])
  .ret))
theorem hd56 : Try.f56.body.map dec = some c56 := by kernel_rfl
theorem e56 {R : AV → AH → Prop} {h : AH} (x0 : AV) (H : h.wf → AI Try.prog c56 (RetQ Try.prog [.tmp 2] R) [x0, un, un, un, un] h) : AC Try.prog 56 [x0] h R :=
  AC_of' (rs := [.tmp 2]) Try.func56 (by kernel_rfl) hd56 Try.ntmps56 rfl H

/-- spec.shPath -/
def c69 : IC :=
  (.seq
  (.reg [
    ⟨some 2, .assign (.const (.slice none 0 0)), none⟩])
  (.seq
  (.reg [
    ⟨some 6, .call { callee := .value (.func 63), args := #[], argTypes := #[] }, none⟩,
    ⟨some 3, .alloc 49, none⟩,
    ⟨none, .store 49 (.tmp 3) (.tmp 6), none⟩])
  (.block 0
  (.loop
    (.seq
    (.block 1
    (.seq
    (.reg [
      ⟨some 9, .fieldAddr 49 (.tmp 3) 0, none⟩,
      ⟨some 10, .load 30 (.tmp 9), none⟩,
      ⟨some 11, .call { callee := .builtin .len, args := #[.tmp 10], argTypes := #[30] }, none⟩,
      ⟨some 12, .move (.const (.int .i64 0)), none⟩])
    (.block 2
    (.loop
      (.seq
      (.reg [
        ⟨some 13, .binOp .lss 3 (.tmp 12) (.tmp 11) 3, none⟩])
      (.seq
      (.cond (.tmp 13)
        .skip
        (.exit 2))
      (.seq
      (.block 3
      (.seq
      (.reg [
        ⟨some 14, .indexAddr 30 (.tmp 10) (.tmp 12), none⟩,
        ⟨some 15, .load 22 (.tmp 14), none⟩,
        ⟨some 5, .assign (.tmp 15), none⟩])
      (.seq
      (.reg [
        ⟨some 16, .move (.tmp 5), none⟩,
        ⟨some 17, .move (.tmp 5), none⟩,
        ⟨some 18, .call { callee := .builtin .len, args := #[.tmp 17], argTypes := #[22] }, none⟩,
        ⟨some 19, .binOp .sub 3 (.tmp 18) (.const (.int .i64 1)) 3, none⟩,
        ⟨some 20, .indexAddr 22 (.tmp 16) (.tmp 19), none⟩,
        ⟨some 21, .load 3 (.tmp 20), none⟩,
        ⟨some 22, .move (.tmp 0), none⟩,
        ⟨some 23, .binOp .eql 3 (.tmp 21) (.tmp 22) 3, none⟩])
      (.cond (.tmp 23)
        (.seq
        (.reg [
          ⟨some 24, .move (.tmp 5), none⟩,
          ⟨some 2, .assign (.tmp 24), none⟩])
        .ret)
        .skip))))
      (.reg [
        ⟨some 25, .binOp .add 3 (.tmp 12) (.const (.int .i64 1)) 3, none⟩,
        ⟨some 12, .move (.tmp 25), none⟩]))))))))
    (.seq
    (.seq
    (.reg [
      ⟨some 26, .load 49 (.tmp 3), none⟩])
    (.reg [
      ⟨some 3, .alloc 49, none⟩,
      ⟨none, .store 49 (.tmp 3) (.tmp 26), none⟩]))
    (.reg [
      ⟨some 7, .load 49 (.tmp 3), none⟩,
      ⟨some 8, .call { callee := .value (.func 64), args := #[.tmp 7], argTypes := #[49] }, none⟩,
      ⟨none, .store 49 (.tmp 3) (.tmp 8), none⟩])))))))
theorem hd69 : Try.f69.body.map dec = some c69 := by kernel_rfl
theorem e69 {R : AV → AH → Prop} {h : AH} (x0 : AV) (H : h.wf → AI Try.prog c69 (RetQ Try.prog [.tmp 2] R) [x0, un, un, un, un, un, un, un, un, un, un, un, un, un, un, un, un, un, un, un, un, un, un, un, un, un, un] h) : AC Try.prog 69 [x0] h R :=
  AC_of' (rs := [.tmp 2]) Try.func69 (by kernel_rfl) hd69 Try.ntmps69 rfl H

/-- spec.TreePath -/
def c24 : IC :=
  (.seq
  (.reg [
    ⟨some 2, .assign (.const (.slice none 0 0)), none⟩,
    ⟨some 3, .assign (.const (.bool false)), none⟩])
  (.seq
  (.seq
  (.reg [
    ⟨some 4, .move (.tmp 0), none⟩,
    ⟨some 5, .call { callee := .value (.func 56), args := #[.tmp 4], argTypes := #[3] }, none⟩,
    ⟨some 6, .unOp .not 4 (.tmp 5), none⟩])
  (.cond (.tmp 6)
    (.seq
    (.reg [
      ⟨some 2, .assign (.const (.slice none 0 0)), none⟩,
      ⟨some 3, .assign (.const (.bool false)), none⟩])
    .ret)
    .skip))
  (.seq
  (.reg [
    ⟨some 7, .move (.tmp 0), none⟩,
    ⟨some 8, .call { callee := .value (.func 69), args := #[.tmp 7], argTypes := #[3] }, none⟩,
    ⟨some 2, .assign (.tmp 8), none⟩,
    ⟨some 3, .assign (.const (.bool true)), none⟩])
  .ret)))
theorem hd24 : Try.f24.body.map dec = some c24 := by kernel_rfl
theorem e24 {R : AV → AH → Prop} {h : AH} (x0 : AV) (H : h.wf → AI Try.prog c24 (RetQ Try.prog [.tmp 2, .tmp 3] R) [x0, un, un, un, un, un, un, un, un] h) : AC Try.prog 24 [x0] h R :=
  AC_of' (rs := [.tmp 2, .tmp 3]) Try.func24 (by kernel_rfl) hd24 Try.ntmps24 rfl H

/-- impl.isShort -/
def c59 : IC :=
  (.seq
  (.reg [
    ⟨some 2, .assign (.const (.bool false)), none⟩])
  (.seq
  (.reg [
    ⟨some 3, .move (.tmp 0), none⟩,
    ⟨some 4, .call { callee := .value (.func 65), args := #[.tmp 3, .const (.int .i64 1), .const (.int .i64 100)], argTypes := #[3, 3, 3] }, none⟩,
    ⟨some 2, .assign (.tmp 4), none⟩])
  .ret))
theorem hd59 : Try.f59.body.map dec = some c59 := by kernel_rfl
theorem e59 {R : AV → AH → Prop} {h : AH} (x0 : AV) (H : h.wf → AI Try.prog c59 (RetQ Try.prog [.tmp 2] R) [x0, un, un, un, un] h) : AC Try.prog 59 [x0] h R :=
  AC_of' (rs := [.tmp 2]) Try.func59 (by kernel_rfl) hd59 Try.ntmps59 rfl H

/-- impl.TreePath -/
def c25 : IC :=
  (.seq
  (.reg [
    ⟨some 2, .assign (.const (.slice none 0 0)), none⟩,
    ⟨some 3, .assign (.const (.bool false)), none⟩])
  (.seq
  (.seq
  (.reg [
    ⟨some 6, .move (.tmp 0), none⟩,
    ⟨some 7, .call { callee := .value (.func 59), args := #[.tmp 6], argTypes := #[3] }, none⟩,
    ⟨some 8, .unOp .not 4 (.tmp 7), none⟩])
  (.cond (.tmp 8)
    (.seq
    (.reg [
      ⟨some 2, .assign (.const (.slice none 0 0)), none⟩,
      ⟨some 3, .assign (.const (.bool false)), none⟩])
    .ret)
    .skip))
  (.seq
  (.reg [
    ⟨some 10, .call { callee := .value (.func 66), args := #[.const (.int .i64 256)], argTypes := #[3] }, none⟩,
    ⟨some 9, .move (.tmp 10), none⟩,
    ⟨some 11, .extract (.tmp 9) 0, none⟩,
    ⟨some 12, .extract (.tmp 9) 1, none⟩,
    ⟨some 4, .assign (.tmp 11), none⟩,
    ⟨some 5, .assign (.tmp 12), none⟩])
  (.seq
  (.reg [
    ⟨some 13, .move (.tmp 4), none⟩,
    ⟨some 14, .move (.tmp 0), none⟩,
    ⟨some 15, .lookup 51 (.tmp 13) (.tmp 14) false, none⟩,
    ⟨some 2, .assign (.tmp 15), none⟩,
    ⟨some 3, .assign (.const (.bool true)), none⟩])
  .ret))))
theorem hd25 : Try.f25.body.map dec = some c25 := by kernel_rfl
theorem e25 {R : AV → AH → Prop} {h : AH} (x0 : AV) (H : h.wf → AI Try.prog c25 (RetQ Try.prog [.tmp 2, .tmp 3] R) [x0, un, un, un, un, un, un, un, un, un, un, un, un, un, un, un] h) : AC Try.prog 25 [x0] h R :=
  AC_of' (rs := [.tmp 2, .tmp 3]) Try.func25 (by kernel_rfl) hd25 Try.ntmps25 rfl H

/-- laws.big -/
def c31 : IC :=
  (.seq
  (.reg [
    ⟨some 4, .assign (.const (.bool false)), none⟩])
  (.seq
  (.reg [
    ⟨some 5, .move (.tmp 0), none⟩,
    ⟨some 6, .call { callee := .builtin .len, args := #[.tmp 5], argTypes := #[35] }, none⟩,
    ⟨some 7, .binOp .gtr 3 (.tmp 6) (.const (.int .i64 1048576)) 3, none⟩,
    ⟨some 8, .move (.tmp 7), none⟩,
    ⟨some 9, .move (.tmp 1), some (8, false)⟩,
    ⟨some 10, .call { callee := .builtin .len, args := #[.tmp 9], argTypes := #[35] }, some (8, false)⟩,
    ⟨some 11, .move (.tmp 0), some (8, false)⟩,
    ⟨some 12, .call { callee := .builtin .len, args := #[.tmp 11], argTypes := #[35] }, some (8, false)⟩,
    ⟨some 13, .binOp .sub 3 (.const (.int .i64 1048576)) (.tmp 12) 3, some (8, false)⟩,
    ⟨some 14, .binOp .gtr 3 (.tmp 10) (.tmp 13) 3, some (8, false)⟩,
    ⟨some 15, .pick (.tmp 8) (.const (.bool true)) (.tmp 14), none⟩,
    ⟨some 4, .assign (.tmp 15), none⟩])
  .ret))
theorem hd31 : Try.f31.body.map dec = some c31 := by kernel_rfl
theorem e31 {R : AV → AH → Prop} {h : AH} (x0 x1 : AV) (H : h.wf → AI Try.prog c31 (RetQ Try.prog [.tmp 4] R) [x0, x1, un, un, un, un, un, un, un, un, un, un, un, un, un, un] h) : AC Try.prog 31 [x0, x1] h R :=
  AC_of' (rs := [.tmp 4]) Try.func31 (by kernel_rfl) hd31 Try.ntmps31 rfl H

/-- laws.rHas -/
def c35 : IC :=
  (.seq
  (.reg [
    ⟨some 4, .assign (.const (.bool false)), none⟩])
  (.seq
  (.seq
  (.reg [
    ⟨some 7, .move (.tmp 0), none⟩,
    ⟨some 8, .call { callee := .builtin .len, args := #[.tmp 7], argTypes := #[22] }, none⟩,
    ⟨some 9, .move (.const (.int .i64 0)), none⟩])
  (.block 0
  (.loop
    (.seq
    (.reg [
      ⟨some 10, .binOp .lss 3 (.tmp 9) (.tmp 8) 3, none⟩])
    (.seq
    (.cond (.tmp 10)
      .skip
      (.exit 0))
    (.seq
    (.block 1
    (.seq
    (.reg [
      ⟨some 11, .indexAddr 22 (.tmp 7) (.tmp 9), none⟩,
      ⟨some 12, .load 3 (.tmp 11), none⟩,
      ⟨some 6, .assign (.tmp 12), none⟩])
    (.seq
    (.reg [
      ⟨some 13, .move (.tmp 6), none⟩,
      ⟨some 14, .move (.tmp 1), none⟩,
      ⟨some 15, .binOp .eql 3 (.tmp 13) (.tmp 14) 3, none⟩])
    (.cond (.tmp 15)
      (.seq
      (.reg [
        ⟨some 4, .assign (.const (.bool true)), none⟩])
      .ret)
      .skip))))
    (.reg [
      ⟨some 16, .binOp .add 3 (.tmp 9) (.const (.int .i64 1)) 3, none⟩,
      ⟨some 9, .move (.tmp 16), none⟩])))))))
  (.seq
  (.reg [
    ⟨some 4, .assign (.const (.bool false)), none⟩])
  .ret)))
theorem hd35 : Try.f35.body.map dec = some c35 := by kernel_rfl
theorem e35 {R : AV → AH → Prop} {h : AH} (x0 x1 : AV) (H : h.wf → AI Try.prog c35 (RetQ Try.prog [.tmp 4] R) [x0, x1, un, un, un, un, un, un, un, un, un, un, un, un, un, un, un] h) : AC Try.prog 35 [x0, x1] h R :=
  AC_of' (rs := [.tmp 4]) Try.func35 (by kernel_rfl) hd35 Try.ntmps35 rfl H

noncomputable def rg93_0 : Array Oper := rawAt Try.f93 0
noncomputable def rg93_1 : Array Oper := rawAt Try.f93 1
noncomputable def rg93_2 : Array Oper := rawAt Try.f93 2
/-- (*spec.l1Cur).next -/
noncomputable def c93 : IC :=
  (.seq
  (.reg [
    ⟨some 2, .assign (.const (.int .i64 0)), none⟩])
  (.seq
  (.reg [
    ⟨some 3, .assign (.const (.int .i64 0)), none⟩])
  (.seq
  (.seq
  (.raw (.region 2 rg93_0 true))
  (.cond (.tmp 13)
    (.raw (.region 3 rg93_1 true))
    .skip))
  (.seq
  (.reg [
    ⟨some 25, .move (.tmp 0), none⟩,
    ⟨some 26, .nilCheck (.tmp 25), none⟩,
    ⟨some 27, .fieldAddr 61 (.tmp 26) 1, none⟩,
    ⟨some 28, .load 3 (.tmp 27), none⟩,
    ⟨some 29, .binOp .add 3 (.tmp 28) (.const (.int .i64 1)) 3, none⟩,
    ⟨some 30, .nilCheck (.tmp 25), none⟩,
    ⟨some 31, .fieldAddr 61 (.tmp 30) 1, none⟩,
    ⟨none, .store 3 (.tmp 31) (.tmp 29), none⟩])
  (.seq
  (.reg [
    ⟨some 32, .move (.tmp 0), none⟩,
    ⟨some 33, .move (.tmp 0), none⟩,
    ⟨some 34, .nilCheck (.tmp 33), none⟩,
    ⟨some 35, .fieldAddr 61 (.tmp 34) 2, none⟩,
    ⟨some 36, .load 59 (.tmp 35), none⟩,
    ⟨some 37, .binOp .mul 59 (.tmp 36) (.const (.int .u64 6364136223846793005)) 59, none⟩,
    ⟨some 38, .move (.tmp 3), none⟩,
    ⟨some 39, .convert 3 59 (.tmp 38), none⟩,
    ⟨some 40, .binOp .add 59 (.tmp 37) (.tmp 39) 59, none⟩,
    ⟨some 41, .binOp .add 59 (.tmp 40) (.const (.int .u64 1442695040888963407)) 59, none⟩,
    ⟨some 42, .nilCheck (.tmp 32), none⟩,
    ⟨some 43, .fieldAddr 61 (.tmp 42) 2, none⟩,
    ⟨none, .store 59 (.tmp 43) (.tmp 41), none⟩])
  (.seq
  (.seq
  (.raw (.region 6 rg93_2 true))
  (.cond (.tmp 53)
    (.seq
    (.reg [
      ⟨some 54, .move (.tmp 3), none⟩,
      ⟨some 2, .assign (.tmp 54), none⟩])
    .ret)
    .skip))
  (.seq
  (.reg [
    ⟨some 55, .move (.tmp 0), none⟩,
    ⟨some 56, .nilCheck (.tmp 55), none⟩,
    ⟨some 57, .fieldAddr 61 (.tmp 56) 2, none⟩,
    ⟨some 58, .load 59 (.tmp 57), none⟩,
    ⟨some 59, .binOp .shr 59 (.tmp 58) (.const (.int .u64 40)) 67, none⟩,
    ⟨some 60, .binOp .and 59 (.tmp 59) (.const (.int .u64 255)) 59, none⟩,
    ⟨some 61, .convert 59 3 (.tmp 60), none⟩,
    ⟨some 2, .assign (.tmp 61), none⟩])
  .ret)))))))
theorem hd93 : Try.f93.body.map dec = some c93 := by kernel_rfl
theorem e93 {R : AV → AH → Prop} {h : AH} (x0 : AV) (H : h.wf → AI Try.prog c93 (RetQ Try.prog [.tmp 2] R) [x0, un, un, un, un, un, un, un, un, un, un, un, un, un, un, un, un, un, un, un, un, un, un, un, un, un, un, un, un, un, un, un, un, un, un, un, un, un, un, un, un, un, un, un, un, un, un, un, un, un, un, un, un, un, un, un, un, un, un, un, un, un] h) : AC Try.prog 93 [x0] h R :=
  AC_of' (rs := [.tmp 2]) Try.func93 (by kernel_rfl) hd93 Try.ntmps93 rfl H
theorem dz93_0 {h0 : AH} {L : List It} {Q : Exit → List AV → List It → Prop} {a : List AV} {id : Nat} (H : LX Try.prog ⟨[], []⟩ h0 L L (.c (⟨some 4, .move (.tmp 0), none⟩, .p) <| .c (⟨some 5, .nilCheck (.tmp 4), none⟩, .p) <| .c (⟨some 6, .fieldAddr 61 (.tmp 5) 1, none⟩, .p) <| .c (⟨some 7, .load 3 (.tmp 6), none⟩, .l) <| .c (⟨some 8, .move (.tmp 0), none⟩, .p) <| .c (⟨some 9, .nilCheck (.tmp 8), none⟩, .p) <| .c (⟨some 10, .fieldAddr 61 (.tmp 9) 0, none⟩, .p) <| .c (⟨some 11, .load 35 (.tmp 10), none⟩, .l) <| .c (⟨some 12, .call { callee := .builtin .len, args := #[.tmp 11], argTypes := #[35] }, none⟩, .p) <| .c (⟨some 13, .binOp .lss 3 (.tmp 7) (.tmp 12) 3, none⟩, .p) <| .n) Q a) : LI Try.prog h0 L (.raw (.region id rg93_0 true)) Q a :=
  LI_draw (.c (0, .p) <| .c (1, .p) <| .c (2, .p) <| .c (3, .l) <| .c (4, .p) <| .c (5, .p) <| .c (6, .p) <| .c (7, .l) <| .c (8, .p) <| .c (9, .p) <| .n) [] (by kernel_rfl) (by kernel_rfl) (by kernel_rfl) H
theorem dr93_0 (m : Nat) {Q : Exit → List AV → AH → Prop} {a : List AV} {h : AH} {id : Nat} (H : AX Try.prog m h [(⟨some 4, .move (.tmp 0), none⟩, true),
  (⟨some 5, .nilCheck (.tmp 4), none⟩, true),
  (⟨some 6, .fieldAddr 61 (.tmp 5) 1, none⟩, true),
  (⟨some 7, .load 3 (.tmp 6), none⟩, true),
  (⟨some 8, .move (.tmp 0), none⟩, true),
  (⟨some 9, .nilCheck (.tmp 8), none⟩, true),
  (⟨some 10, .fieldAddr 61 (.tmp 9) 0, none⟩, true),
  (⟨some 11, .load 35 (.tmp 10), none⟩, true),
  (⟨some 12, .call { callee := .builtin .len, args := #[.tmp 11], argTypes := #[35] }, none⟩, true),
  (⟨some 13, .binOp .lss 3 (.tmp 7) (.tmp 12) 3, none⟩, true)] (fun a' h' => Q .normal a' h') a h) : AI Try.prog (.raw (.region id rg93_0 true)) Q a h :=
  AI_draw [(0, true), (1, true), (2, true), (3, true), (4, true), (5, true), (6, true), (7, true), (8, true), (9, true)] m (by kernel_rfl) (by kernel_rfl) (by kernel_rfl) H
theorem dz93_1 {h0 : AH} {L : List It} {Q : Exit → List AV → List It → Prop} {a : List AV} {id : Nat} (H : LX Try.prog ⟨[], []⟩ h0 L L (.c (⟨some 14, .move (.tmp 0), none⟩, .p) <| .c (⟨some 15, .nilCheck (.tmp 14), none⟩, .p) <| .c (⟨some 16, .fieldAddr 61 (.tmp 15) 0, none⟩, .p) <| .c (⟨some 17, .load 35 (.tmp 16), none⟩, .l) <| .c (⟨some 18, .move (.tmp 0), none⟩, .p) <| .c (⟨some 19, .nilCheck (.tmp 18), none⟩, .p) <| .c (⟨some 20, .fieldAddr 61 (.tmp 19) 1, none⟩, .p) <| .c (⟨some 21, .load 3 (.tmp 20), none⟩, .l) <| .c (⟨some 22, .indexAddr 35 (.tmp 17) (.tmp 21), none⟩, .p) <| .c (⟨some 23, .load 5 (.tmp 22), none⟩, .l) <| .c (⟨some 24, .convert 5 3 (.tmp 23), none⟩, .p) <| .c (⟨some 3, .assign (.tmp 24), none⟩, .p) <| .n) Q a) : LI Try.prog h0 L (.raw (.region id rg93_1 true)) Q a :=
  LI_draw (.c (0, .p) <| .c (1, .p) <| .c (2, .p) <| .c (3, .l) <| .c (4, .p) <| .c (5, .p) <| .c (6, .p) <| .c (7, .l) <| .c (8, .p) <| .c (9, .l) <| .c (10, .p) <| .c (11, .p) <| .n) [] (by kernel_rfl) (by kernel_rfl) (by kernel_rfl) H
theorem dr93_1 (m : Nat) {Q : Exit → List AV → AH → Prop} {a : List AV} {h : AH} {id : Nat} (H : AX Try.prog m h [(⟨some 14, .move (.tmp 0), none⟩, true),
  (⟨some 15, .nilCheck (.tmp 14), none⟩, true),
  (⟨some 16, .fieldAddr 61 (.tmp 15) 0, none⟩, true),
  (⟨some 17, .load 35 (.tmp 16), none⟩, true),
  (⟨some 18, .move (.tmp 0), none⟩, true),
  (⟨some 19, .nilCheck (.tmp 18), none⟩, true),
  (⟨some 20, .fieldAddr 61 (.tmp 19) 1, none⟩, true),
  (⟨some 21, .load 3 (.tmp 20), none⟩, true),
  (⟨some 22, .indexAddr 35 (.tmp 17) (.tmp 21), none⟩, true),
  (⟨some 23, .load 5 (.tmp 22), none⟩, true),
  (⟨some 24, .convert 5 3 (.tmp 23), none⟩, true),
  (⟨some 3, .assign (.tmp 24), none⟩, true)] (fun a' h' => Q .normal a' h') a h) : AI Try.prog (.raw (.region id rg93_1 true)) Q a h :=
  AI_draw [(0, true), (1, true), (2, true), (3, true), (4, true), (5, true), (6, true), (7, true), (8, true), (9, true), (10, true), (11, true)] m (by kernel_rfl) (by kernel_rfl) (by kernel_rfl) H
theorem dz93_2 {h0 : AH} {L : List It} {Q : Exit → List AV → List It → Prop} {a : List AV} {id : Nat} (H : LX Try.prog ⟨[], []⟩ h0 L L (.c (⟨some 44, .move (.tmp 0), none⟩, .p) <| .c (⟨some 45, .nilCheck (.tmp 44), none⟩, .p) <| .c (⟨some 46, .fieldAddr 61 (.tmp 45) 1, none⟩, .p) <| .c (⟨some 47, .load 3 (.tmp 46), none⟩, .l) <| .c (⟨some 48, .move (.tmp 0), none⟩, .p) <| .c (⟨some 49, .nilCheck (.tmp 48), none⟩, .p) <| .c (⟨some 50, .fieldAddr 61 (.tmp 49) 0, none⟩, .p) <| .c (⟨some 51, .load 35 (.tmp 50), none⟩, .l) <| .c (⟨some 52, .call { callee := .builtin .len, args := #[.tmp 51], argTypes := #[35] }, none⟩, .p) <| .c (⟨some 53, .binOp .leq 3 (.tmp 47) (.tmp 52) 3, none⟩, .p) <| .n) Q a) : LI Try.prog h0 L (.raw (.region id rg93_2 true)) Q a :=
  LI_draw (.c (0, .p) <| .c (1, .p) <| .c (2, .p) <| .c (3, .l) <| .c (4, .p) <| .c (5, .p) <| .c (6, .p) <| .c (7, .l) <| .c (8, .p) <| .c (9, .p) <| .n) [] (by kernel_rfl) (by kernel_rfl) (by kernel_rfl) H
theorem dr93_2 (m : Nat) {Q : Exit → List AV → AH → Prop} {a : List AV} {h : AH} {id : Nat} (H : AX Try.prog m h [(⟨some 44, .move (.tmp 0), none⟩, true),
  (⟨some 45, .nilCheck (.tmp 44), none⟩, true),
  (⟨some 46, .fieldAddr 61 (.tmp 45) 1, none⟩, true),
  (⟨some 47, .load 3 (.tmp 46), none⟩, true),
  (⟨some 48, .move (.tmp 0), none⟩, true),
  (⟨some 49, .nilCheck (.tmp 48), none⟩, true),
  (⟨some 50, .fieldAddr 61 (.tmp 49) 0, none⟩, true),
  (⟨some 51, .load 35 (.tmp 50), none⟩, true),
  (⟨some 52, .call { callee := .builtin .len, args := #[.tmp 51], argTypes := #[35] }, none⟩, true),
  (⟨some 53, .binOp .leq 3 (.tmp 47) (.tmp 52) 3, none⟩, true)] (fun a' h' => Q .normal a' h') a h) : AI Try.prog (.raw (.region id rg93_2 true)) Q a h :=
  AI_draw [(0, true), (1, true), (2, true), (3, true), (4, true), (5, true), (6, true), (7, true), (8, true), (9, true)] m (by kernel_rfl) (by kernel_rfl) (by kernel_rfl) H

/-- (*spec.l1Cur).pick -/
def c73 : IC :=
  (.seq
  (.reg [
    ⟨some 4, .assign (.const (.int .i64 0)), none⟩])
  (.seq
  (.seq
  (.reg [
    ⟨some 6, .move (.tmp 1), none⟩,
    ⟨some 7, .binOp .leq 3 (.tmp 6) (.const (.int .i64 1)) 3, none⟩])
  (.cond (.tmp 7)
    (.seq
    (.reg [
      ⟨some 4, .assign (.const (.int .i64 0)), none⟩])
    .ret)
    .skip))
  (.seq
  (.reg [
    ⟨some 8, .move (.tmp 0), none⟩,
    ⟨some 9, .call { callee := .value (.func 93), args := #[.tmp 8], argTypes := #[58] }, none⟩,
    ⟨some 5, .assign (.tmp 9), none⟩])
  (.seq
  (.seq
  (.reg [
    ⟨some 10, .move (.tmp 1), none⟩,
    ⟨some 11, .binOp .gtr 3 (.tmp 10) (.const (.int .i64 200)) 3, none⟩])
  (.cond (.tmp 11)
    (.reg [
      ⟨some 12, .move (.tmp 5), none⟩,
      ⟨some 13, .binOp .mul 3 (.tmp 12) (.const (.int .i64 256)) 3, none⟩,
      ⟨some 14, .move (.tmp 0), none⟩,
      ⟨some 15, .call { callee := .value (.func 93), args := #[.tmp 14], argTypes := #[58] }, none⟩,
      ⟨some 16, .binOp .add 3 (.tmp 13) (.tmp 15) 3, none⟩,
      ⟨some 5, .assign (.tmp 16), none⟩])
    .skip))
  (.seq
  (.reg [
    ⟨some 17, .move (.tmp 5), none⟩,
    ⟨some 18, .move (.tmp 1), none⟩,
    ⟨some 19, .binOp .rem 3 (.tmp 17) (.tmp 18) 3, none⟩,
    ⟨some 4, .assign (.tmp 19), none⟩])
  .ret)))))
theorem hd73 : Try.f73.body.map dec = some c73 := by kernel_rfl
theorem e73 {R : AV → AH → Prop} {h : AH} (x0 x1 : AV) (H : h.wf → AI Try.prog c73 (RetQ Try.prog [.tmp 4] R) [x0, x1, un, un, un, un, un, un, un, un, un, un, un, un, un, un, un, un, un, un] h) : AC Try.prog 73 [x0, x1] h R :=
  AC_of' (rs := [.tmp 4]) Try.func73 (by kernel_rfl) hd73 Try.ntmps73 rfl H

/-- (*spec.l1Cur).among -/
def c74 : IC :=
  (.seq
  (.reg [
    ⟨some 4, .assign (.const (.int .i64 0)), none⟩])
  (.seq
  (.reg [
    ⟨some 5, .move (.tmp 1), none⟩,
    ⟨some 6, .move (.tmp 0), none⟩,
    ⟨some 7, .move (.tmp 1), none⟩,
    ⟨some 8, .call { callee := .builtin .len, args := #[.tmp 7], argTypes := #[22] }, none⟩,
    ⟨some 9, .call { callee := .value (.func 73), args := #[.tmp 6, .tmp 8], argTypes := #[58, 3] }, none⟩,
    ⟨some 10, .indexAddr 22 (.tmp 5) (.tmp 9), none⟩,
    ⟨some 11, .load 3 (.tmp 10), none⟩,
    ⟨some 4, .assign (.tmp 11), none⟩])
  .ret))
theorem hd74 : Try.f74.body.map dec = some c74 := by kernel_rfl
theorem e74 {R : AV → AH → Prop} {h : AH} (x0 x1 : AV) (H : h.wf → AI Try.prog c74 (RetQ Try.prog [.tmp 4] R) [x0, x1, un, un, un, un, un, un, un, un, un, un] h) : AC Try.prog 74 [x0, x1] h R :=
  AC_of' (rs := [.tmp 4]) Try.func74 (by kernel_rfl) hd74 Try.ntmps74 rfl H

/-- spec.DrawTreeLevel -/
def c37 : IC :=
  (.seq
  (.reg [
    ⟨some 2, .assign (.const (.int .i64 0)), none⟩])
  (.seq
  (.reg [
    ⟨some 4, .move (.tmp 0), none⟩,
    ⟨some 5, .build 61 #[(0, .tmp 4)], none⟩,
    ⟨some 6, .box 61 (.tmp 5), none⟩,
    ⟨some 3, .assign (.tmp 6), none⟩])
  (.seq
  (.reg [
    ⟨some 7, .move (.tmp 3), none⟩,
    ⟨some 8, .buildSlice 22 11 #[(0, .const (.int .i64 0)), (1, .const (.int .i64 1)), (2, .const (.int .i64 2)), (3, .const (.int .i64 3)), (4, .const (.int .i64 4)), (5, .const (.int .i64 5)), (6, .const (.int .i64 6)), (7, .const (.int .i64 7)), (8, .const (.int .i64 8)), (9, .const (.int .i64 9)), (10, .const (.int .i64 (-1)))], none⟩,
    ⟨some 9, .call { callee := .value (.func 74), args := #[.tmp 7, .tmp 8], argTypes := #[58, 22] }, none⟩,
    ⟨some 2, .assign (.tmp 9), none⟩])
  .ret)))
theorem hd37 : Try.f37.body.map dec = some c37 := by kernel_rfl
theorem e37 {R : AV → AH → Prop} {h : AH} (x0 : AV) (H : h.wf → AI Try.prog c37 (RetQ Try.prog [.tmp 2] R) [x0, un, un, un, un, un, un, un, un, un] h) : AC Try.prog 37 [x0] h R :=
  AC_of' (rs := [.tmp 2]) Try.func37 (by kernel_rfl) hd37 Try.ntmps37 rfl H

noncomputable def rg38_0 : Array Oper := rawAt Try.f38 0
/-- laws.rSame -/
noncomputable def c38 : IC :=
  (.seq
  (.reg [
    ⟨some 4, .assign (.const (.bool false)), none⟩])
  (.seq
  (.seq
  (.reg [
    ⟨some 6, .move (.tmp 0), none⟩,
    ⟨some 7, .call { callee := .builtin .len, args := #[.tmp 6], argTypes := #[22] }, none⟩,
    ⟨some 8, .move (.tmp 1), none⟩,
    ⟨some 9, .call { callee := .builtin .len, args := #[.tmp 8], argTypes := #[22] }, none⟩,
    ⟨some 10, .binOp .neq 3 (.tmp 7) (.tmp 9) 3, none⟩])
  (.cond (.tmp 10)
    (.seq
    (.reg [
      ⟨some 4, .assign (.const (.bool false)), none⟩])
    .ret)
    .skip))
  (.seq
  (.seq
  (.reg [
    ⟨some 11, .move (.tmp 0), none⟩,
    ⟨some 12, .call { callee := .builtin .len, args := #[.tmp 11], argTypes := #[22] }, none⟩,
    ⟨some 13, .move (.const (.int .i64 0)), none⟩])
  (.block 0
  (.loop
    (.seq
    (.reg [
      ⟨some 14, .binOp .lss 3 (.tmp 13) (.tmp 12) 3, none⟩])
    (.seq
    (.cond (.tmp 14)
      .skip
      (.exit 0))
    (.seq
    (.block 1
    (.seq
    (.reg [
      ⟨some 15, .move (.tmp 13), none⟩,
      ⟨some 5, .assign (.tmp 15), none⟩])
    (.seq
    (.raw (.region 6 rg38_0 true))
    (.cond (.tmp 24)
      (.seq
      (.reg [
        ⟨some 4, .assign (.const (.bool false)), none⟩])
      .ret)
      .skip))))
    (.reg [
      ⟨some 25, .binOp .add 3 (.tmp 13) (.const (.int .i64 1)) 3, none⟩,
      ⟨some 13, .move (.tmp 25), none⟩])))))))
  (.seq
  (.reg [
    ⟨some 4, .assign (.const (.bool true)), none⟩])
  .ret))))
theorem hd38 : Try.f38.body.map dec = some c38 := by kernel_rfl
theorem e38 {R : AV → AH → Prop} {h : AH} (x0 x1 : AV) (H : h.wf → AI Try.prog c38 (RetQ Try.prog [.tmp 4] R) [x0, x1, un, un, un, un, un, un, un, un, un, un, un, un, un, un, un, un, un, un, un, un, un, un, un, un] h) : AC Try.prog 38 [x0, x1] h R :=
  AC_of' (rs := [.tmp 4]) Try.func38 (by kernel_rfl) hd38 Try.ntmps38 rfl H
theorem dz38_0 {h0 : AH} {L : List It} {Q : Exit → List AV → List It → Prop} {a : List AV} {id : Nat} (H : LX Try.prog ⟨[], []⟩ h0 L L (.c (⟨some 16, .move (.tmp 0), none⟩, .p) <| .c (⟨some 17, .move (.tmp 5), none⟩, .p) <| .c (⟨some 18, .indexAddr 22 (.tmp 16) (.tmp 17), none⟩, .p) <| .c (⟨some 19, .load 3 (.tmp 18), none⟩, .l) <| .c (⟨some 20, .move (.tmp 1), none⟩, .p) <| .c (⟨some 21, .move (.tmp 5), none⟩, .p) <| .c (⟨some 22, .indexAddr 22 (.tmp 20) (.tmp 21), none⟩, .p) <| .c (⟨some 23, .load 3 (.tmp 22), none⟩, .l) <| .c (⟨some 24, .binOp .neq 3 (.tmp 19) (.tmp 23) 3, none⟩, .p) <| .n) Q a) : LI Try.prog h0 L (.raw (.region id rg38_0 true)) Q a :=
  LI_draw (.c (0, .p) <| .c (1, .p) <| .c (2, .p) <| .c (3, .l) <| .c (4, .p) <| .c (5, .p) <| .c (6, .p) <| .c (7, .l) <| .c (8, .p) <| .n) [] (by kernel_rfl) (by kernel_rfl) (by kernel_rfl) H
theorem dr38_0 (m : Nat) {Q : Exit → List AV → AH → Prop} {a : List AV} {h : AH} {id : Nat} (H : AX Try.prog m h [(⟨some 16, .move (.tmp 0), none⟩, true),
  (⟨some 17, .move (.tmp 5), none⟩, true),
  (⟨some 18, .indexAddr 22 (.tmp 16) (.tmp 17), none⟩, true),
  (⟨some 19, .load 3 (.tmp 18), none⟩, true),
  (⟨some 20, .move (.tmp 1), none⟩, true),
  (⟨some 21, .move (.tmp 5), none⟩, true),
  (⟨some 22, .indexAddr 22 (.tmp 20) (.tmp 21), none⟩, true),
  (⟨some 23, .load 3 (.tmp 22), none⟩, true),
  (⟨some 24, .binOp .neq 3 (.tmp 19) (.tmp 23) 3, none⟩, true)] (fun a' h' => Q .normal a' h') a h) : AI Try.prog (.raw (.region id rg38_0 true)) Q a h :=
  AI_draw [(0, true), (1, true), (2, true), (3, true), (4, true), (5, true), (6, true), (7, true), (8, true)] m (by kernel_rfl) (by kernel_rfl) (by kernel_rfl) H

/-- (*spec.l1Cur).one -/
def c96 : IC :=
  (.seq
  (.reg [
    ⟨some 4, .assign (.const (.bool false)), none⟩])
  (.seq
  (.reg [
    ⟨some 5, .move (.tmp 0), none⟩,
    ⟨some 6, .move (.tmp 1), none⟩,
    ⟨some 7, .call { callee := .value (.func 73), args := #[.tmp 5, .tmp 6], argTypes := #[58, 3] }, none⟩,
    ⟨some 8, .binOp .eql 3 (.tmp 7) (.const (.int .i64 0)) 3, none⟩,
    ⟨some 4, .assign (.tmp 8), none⟩])
  .ret))
theorem hd96 : Try.f96.body.map dec = some c96 := by kernel_rfl
theorem e96 {R : AV → AH → Prop} {h : AH} (x0 x1 : AV) (H : h.wf → AI Try.prog c96 (RetQ Try.prog [.tmp 4] R) [x0, x1, un, un, un, un, un, un, un] h) : AC Try.prog 96 [x0, x1] h R :=
  AC_of' (rs := [.tmp 4]) Try.func96 (by kernel_rfl) hd96 Try.ntmps96 rfl H

/-- (*spec.l1Cur).short -/
def c95 : IC :=
  (.seq
  (.reg [
    ⟨some 2, .assign (.const (.int .i64 0)), none⟩])
  (.seq
  (.seq
  (.reg [
    ⟨some 3, .move (.tmp 0), none⟩,
    ⟨some 4, .call { callee := .value (.func 96), args := #[.tmp 3, .const (.int .i64 12)], argTypes := #[58, 3] }, none⟩])
  (.cond (.tmp 4)
    (.seq
    (.reg [
      ⟨some 5, .move (.tmp 0), none⟩,
      ⟨some 6, .buildSlice 22 4 #[(0, .const (.int .i64 0)), (1, .const (.int .i64 (-1))), (2, .const (.int .i64 100)), (3, .const (.int .i64 101))], none⟩,
      ⟨some 7, .call { callee := .value (.func 74), args := #[.tmp 5, .tmp 6], argTypes := #[58, 22] }, none⟩,
      ⟨some 2, .assign (.tmp 7), none⟩])
    .ret)
    .skip))
  (.seq
  (.reg [
    ⟨some 8, .move (.tmp 0), none⟩,
    ⟨some 9, .move (.tmp 0), none⟩,
    ⟨some 10, .buildSlice 22 3 #[(0, .const (.int .i64 12)), (1, .const (.int .i64 40)), (2, .const (.int .i64 100))], none⟩,
    ⟨some 11, .call { callee := .value (.func 74), args := #[.tmp 9, .tmp 10], argTypes := #[58, 22] }, none⟩,
    ⟨some 12, .call { callee := .value (.func 73), args := #[.tmp 8, .tmp 11], argTypes := #[58, 3] }, none⟩,
    ⟨some 13, .binOp .add 3 (.const (.int .i64 1)) (.tmp 12) 3, none⟩,
    ⟨some 2, .assign (.tmp 13), none⟩])
  .ret)))
theorem hd95 : Try.f95.body.map dec = some c95 := by kernel_rfl
theorem e95 {R : AV → AH → Prop} {h : AH} (x0 : AV) (H : h.wf → AI Try.prog c95 (RetQ Try.prog [.tmp 2] R) [x0, un, un, un, un, un, un, un, un, un, un, un, un, un] h) : AC Try.prog 95 [x0] h R :=
  AC_of' (rs := [.tmp 2]) Try.func95 (by kernel_rfl) hd95 Try.ntmps95 rfl H

/-- spec.DrawStarLength -/
def c78 : IC :=
  (.seq
  (.reg [
    ⟨some 2, .assign (.const (.int .i64 0)), none⟩])
  (.seq
  (.reg [
    ⟨some 4, .move (.tmp 0), none⟩,
    ⟨some 5, .build 61 #[(0, .tmp 4)], none⟩,
    ⟨some 6, .box 61 (.tmp 5), none⟩,
    ⟨some 3, .assign (.tmp 6), none⟩])
  (.seq
  (.reg [
    ⟨some 7, .move (.tmp 3), none⟩,
    ⟨some 8, .call { callee := .value (.func 95), args := #[.tmp 7], argTypes := #[58] }, none⟩,
    ⟨some 2, .assign (.tmp 8), none⟩])
  .ret)))
theorem hd78 : Try.f78.body.map dec = some c78 := by kernel_rfl
theorem e78 {R : AV → AH → Prop} {h : AH} (x0 : AV) (H : h.wf → AI Try.prog c78 (RetQ Try.prog [.tmp 2] R) [x0, un, un, un, un, un, un, un, un] h) : AC Try.prog 78 [x0] h R :=
  AC_of' (rs := [.tmp 2]) Try.func78 (by kernel_rfl) hd78 Try.ntmps78 rfl H

/-- spec.DrawTreePath -/
def c39 : IC :=
  (.seq
  (.reg [
    ⟨some 2, .assign (.const (.int .i64 0)), none⟩])
  (.seq
  (.reg [
    ⟨some 3, .move (.tmp 0), none⟩,
    ⟨some 4, .call { callee := .value (.func 78), args := #[.tmp 3], argTypes := #[35] }, none⟩,
    ⟨some 2, .assign (.tmp 4), none⟩])
  .ret))
theorem hd39 : Try.f39.body.map dec = some c39 := by kernel_rfl
theorem e39 {R : AV → AH → Prop} {h : AH} (x0 : AV) (H : h.wf → AI Try.prog c39 (RetQ Try.prog [.tmp 2] R) [x0, un, un, un, un] h) : AC Try.prog 39 [x0] h R :=
  AC_of' (rs := [.tmp 2]) Try.func39 (by kernel_rfl) hd39 Try.ntmps39 rfl H

/-- impl.TreeParent -/
def c40 : IC :=
  (.seq
  (.reg [
    ⟨some 2, .assign (.const (.int .i64 0)), none⟩,
    ⟨some 3, .assign (.const (.bool false)), none⟩])
  (.seq
  (.reg [
    ⟨some 7, .move (.tmp 0), none⟩,
    ⟨some 8, .call { callee := .value (.func 25), args := #[.tmp 7], argTypes := #[3] }, none⟩,
    ⟨some 6, .move (.tmp 8), none⟩,
    ⟨some 9, .extract (.tmp 6) 0, none⟩,
    ⟨some 10, .extract (.tmp 6) 1, none⟩,
    ⟨some 4, .assign (.tmp 9), none⟩,
    ⟨some 5, .assign (.tmp 10), none⟩])
  (.seq
  (.seq
  (.reg [
    ⟨some 11, .move (.tmp 5), none⟩,
    ⟨some 12, .unOp .not 4 (.tmp 11), none⟩,
    ⟨some 13, .move (.tmp 12), none⟩,
    ⟨some 14, .move (.tmp 0), some (13, false)⟩,
    ⟨some 15, .binOp .eql 3 (.tmp 14) (.const (.int .i64 1)) 3, some (13, false)⟩,
    ⟨some 16, .pick (.tmp 13) (.const (.bool true)) (.tmp 15), none⟩])
  (.cond (.tmp 16)
    (.seq
    (.reg [
      ⟨some 2, .assign (.const (.int .i64 0)), none⟩,
      ⟨some 3, .assign (.const (.bool false)), none⟩])
    .ret)
    .skip))
  (.seq
  (.reg [
    ⟨some 17, .move (.tmp 4), none⟩,
    ⟨some 18, .move (.tmp 4), none⟩,
    ⟨some 19, .call { callee := .builtin .len, args := #[.tmp 18], argTypes := #[22] }, none⟩,
    ⟨some 20, .binOp .sub 3 (.tmp 19) (.const (.int .i64 2)) 3, none⟩,
    ⟨some 21, .indexAddr 22 (.tmp 17) (.tmp 20), none⟩,
    ⟨some 22, .load 3 (.tmp 21), none⟩,
    ⟨some 2, .assign (.tmp 22), none⟩,
    ⟨some 3, .assign (.const (.bool true)), none⟩])
  .ret))))
theorem hd40 : Try.f40.body.map dec = some c40 := by kernel_rfl
theorem e40 {R : AV → AH → Prop} {h : AH} (x0 : AV) (H : h.wf → AI Try.prog c40 (RetQ Try.prog [.tmp 2, .tmp 3] R) [x0, un, un, un, un, un, un, un, un, un, un, un, un, un, un, un, un, un, un, un, un, un, un] h) : AC Try.prog 40 [x0] h R :=
  AC_of' (rs := [.tmp 2, .tmp 3]) Try.func40 (by kernel_rfl) hd40 Try.ntmps40 rfl H

/-- laws.FnPowerTree -/
def c9 : IC :=
  (.seq
  (.reg [
    ⟨some 4, .assign (.const (.bool false)), none⟩])
  (.seq
  (.seq
  (.reg [
    ⟨some 23, .move (.tmp 0), none⟩,
    ⟨some 24, .move (.tmp 1), none⟩,
    ⟨some 25, .call { callee := .value (.func 31), args := #[.tmp 23, .tmp 24], argTypes := #[35, 35] }, none⟩])
  (.cond (.tmp 25)
    (.seq
    (.reg [
      ⟨some 4, .assign (.const (.bool true)), none⟩])
    .ret)
    .skip))
  (.seq
  (.reg [
    ⟨some 26, .move (.tmp 0), none⟩,
    ⟨some 27, .call { callee := .value (.func 37), args := #[.tmp 26], argTypes := #[35] }, none⟩,
    ⟨some 5, .assign (.tmp 27), none⟩])
  (.seq
  (.reg [
    ⟨some 29, .move (.tmp 5), none⟩,
    ⟨some 30, .call { callee := .value (.func 21), args := #[.tmp 29], argTypes := #[3] }, none⟩,
    ⟨some 28, .move (.tmp 30), none⟩,
    ⟨some 31, .extract (.tmp 28) 0, none⟩,
    ⟨some 32, .extract (.tmp 28) 1, none⟩,
    ⟨some 6, .assign (.tmp 31), none⟩,
    ⟨some 7, .assign (.tmp 32), none⟩])
  (.seq
  (.reg [
    ⟨some 34, .move (.tmp 5), none⟩,
    ⟨some 35, .call { callee := .value (.func 20), args := #[.tmp 34], argTypes := #[3] }, none⟩,
    ⟨some 33, .move (.tmp 35), none⟩,
    ⟨some 36, .extract (.tmp 33) 0, none⟩,
    ⟨some 37, .extract (.tmp 33) 1, none⟩,
    ⟨some 8, .assign (.tmp 36), none⟩,
    ⟨some 9, .assign (.tmp 37), none⟩])
  (.seq
  (.seq
  (.reg [
    ⟨some 38, .move (.tmp 7), none⟩,
    ⟨some 39, .move (.tmp 9), none⟩,
    ⟨some 40, .binOp .neq 4 (.tmp 38) (.tmp 39) 4, none⟩,
    ⟨some 41, .move (.tmp 40), none⟩,
    ⟨some 42, .move (.tmp 6), some (41, false)⟩,
    ⟨some 43, .move (.tmp 8), some (41, false)⟩,
    ⟨some 44, .call { callee := .value (.func 38), args := #[.tmp 42, .tmp 43], argTypes := #[22, 22] }, some (41, false)⟩,
    ⟨some 45, .unOp .not 4 (.tmp 44), some (41, false)⟩,
    ⟨some 46, .pick (.tmp 41) (.const (.bool true)) (.tmp 45), none⟩])
  (.cond (.tmp 46)
    (.seq
    (.reg [
      ⟨some 4, .assign (.const (.bool false)), none⟩])
    .ret)
    .skip))
  (.seq
  (.seq
  (.reg [
    ⟨some 47, .move (.tmp 6), none⟩,
    ⟨some 48, .call { callee := .builtin .len, args := #[.tmp 47], argTypes := #[22] }, none⟩,
    ⟨some 49, .move (.const (.int .i64 0)), none⟩])
  (.block 0
  (.loop
    (.seq
    (.reg [
      ⟨some 50, .binOp .lss 3 (.tmp 49) (.tmp 48) 3, none⟩])
    (.seq
    (.cond (.tmp 50)
      .skip
      (.exit 0))
    (.seq
    (.block 1
    (.seq
    (.reg [
      ⟨some 51, .move (.tmp 49), none⟩,
      ⟨some 52, .indexAddr 22 (.tmp 47) (.tmp 49), none⟩,
      ⟨some 53, .load 3 (.tmp 52), none⟩,
      ⟨some 10, .assign (.tmp 51), none⟩,
      ⟨some 11, .assign (.tmp 53), none⟩])
    (.seq
    (.seq
    (.reg [
      ⟨some 54, .move (.tmp 6), none⟩,
      ⟨some 55, .move (.tmp 10), none⟩,
      ⟨some 56, .slice 22 (.tmp 54) none (some (.tmp 55)) none, none⟩,
      ⟨some 57, .move (.tmp 11), none⟩,
      ⟨some 58, .call { callee := .value (.func 35), args := #[.tmp 56, .tmp 57], argTypes := #[22, 3] }, none⟩])
    (.cond (.tmp 58)
      (.seq
      (.reg [
        ⟨some 4, .assign (.const (.bool false)), none⟩])
      .ret)
      .skip))
    (.seq
    (.reg [
      ⟨some 60, .move (.tmp 11), none⟩,
      ⟨some 61, .call { callee := .value (.func 25), args := #[.tmp 60], argTypes := #[3] }, none⟩,
      ⟨some 59, .move (.tmp 61), none⟩,
      ⟨some 62, .extract (.tmp 59) 0, none⟩,
      ⟨some 63, .extract (.tmp 59) 1, none⟩,
      ⟨some 12, .assign (.tmp 62), none⟩,
      ⟨some 13, .assign (.tmp 63), none⟩])
    (.seq
    (.reg [
      ⟨some 64, .move (.tmp 13), none⟩,
      ⟨some 65, .move (.tmp 64), none⟩,
      ⟨some 66, .move (.tmp 12), some (65, true)⟩,
      ⟨some 67, .call { callee := .builtin .len, args := #[.tmp 66], argTypes := #[22] }, some (65, true)⟩,
      ⟨some 68, .move (.tmp 5), some (65, true)⟩,
      ⟨some 69, .binOp .add 3 (.tmp 68) (.const (.int .i64 1)) 3, some (65, true)⟩,
      ⟨some 70, .binOp .neq 3 (.tmp 67) (.tmp 69) 3, some (65, true)⟩,
      ⟨some 71, .pick (.tmp 65) (.tmp 70) (.const (.bool false)), none⟩])
    (.cond (.tmp 71)
      (.seq
      (.reg [
        ⟨some 4, .assign (.const (.bool false)), none⟩])
      .ret)
      .skip))))))
    (.reg [
      ⟨some 72, .binOp .add 3 (.tmp 49) (.const (.int .i64 1)) 3, none⟩,
      ⟨some 49, .move (.tmp 72), none⟩])))))))
  (.seq
  (.reg [
    ⟨some 73, .move (.tmp 1), none⟩,
    ⟨some 74, .call { callee := .value (.func 39), args := #[.tmp 73], argTypes := #[35] }, none⟩,
    ⟨some 14, .assign (.tmp 74), none⟩])
  (.seq
  (.reg [
    ⟨some 76, .move (.tmp 14), none⟩,
    ⟨some 77, .call { callee := .value (.func 25), args := #[.tmp 76], argTypes := #[3] }, none⟩,
    ⟨some 75, .move (.tmp 77), none⟩,
    ⟨some 78, .extract (.tmp 75) 0, none⟩,
    ⟨some 79, .extract (.tmp 75) 1, none⟩,
    ⟨some 15, .assign (.tmp 78), none⟩,
    ⟨some 16, .assign (.tmp 79), none⟩])
  (.seq
  (.reg [
    ⟨some 81, .move (.tmp 14), none⟩,
    ⟨some 82, .call { callee := .value (.func 24), args := #[.tmp 81], argTypes := #[3] }, none⟩,
    ⟨some 80, .move (.tmp 82), none⟩,
    ⟨some 83, .extract (.tmp 80) 0, none⟩,
    ⟨some 84, .extract (.tmp 80) 1, none⟩,
    ⟨some 17, .assign (.tmp 83), none⟩,
    ⟨some 18, .assign (.tmp 84), none⟩])
  (.seq
  (.reg [
    ⟨some 86, .move (.tmp 14), none⟩,
    ⟨some 87, .call { callee := .value (.func 40), args := #[.tmp 86], argTypes := #[3] }, none⟩,
    ⟨some 85, .move (.tmp 87), none⟩,
    ⟨some 88, .extract (.tmp 85) 0, none⟩,
    ⟨some 89, .extract (.tmp 85) 1, none⟩,
    ⟨some 19, .assign (.tmp 88), none⟩,
    ⟨some 20, .assign (.tmp 89), none⟩])
  (.seq
  (.seq
  (.reg [
    ⟨some 90, .move (.tmp 16), none⟩,
    ⟨some 91, .move (.tmp 18), none⟩,
    ⟨some 92, .binOp .neq 4 (.tmp 90) (.tmp 91) 4, none⟩,
    ⟨some 93, .move (.tmp 92), none⟩,
    ⟨some 94, .move (.tmp 15), some (93, false)⟩,
    ⟨some 95, .move (.tmp 17), some (93, false)⟩,
    ⟨some 96, .call { callee := .value (.func 38), args := #[.tmp 94, .tmp 95], argTypes := #[22, 22] }, some (93, false)⟩,
    ⟨some 97, .unOp .not 4 (.tmp 96), some (93, false)⟩,
    ⟨some 98, .pick (.tmp 93) (.const (.bool true)) (.tmp 97), none⟩,
    ⟨some 99, .move (.tmp 98), none⟩,
    ⟨some 100, .move (.tmp 20), some (99, false)⟩,
    ⟨some 101, .move (.tmp 16), some (99, false)⟩,
    ⟨some 102, .move (.tmp 101), some (99, false)⟩,
    ⟨some 103, .move (.tmp 14), some (102, true)⟩,
    ⟨some 104, .binOp .gtr 3 (.tmp 103) (.const (.int .i64 1)) 3, some (102, true)⟩,
    ⟨some 105, .pick (.tmp 102) (.tmp 104) (.const (.bool false)), some (99, false)⟩,
    ⟨some 106, .binOp .neq 4 (.tmp 100) (.tmp 105) 4, some (99, false)⟩,
    ⟨some 107, .pick (.tmp 99) (.const (.bool true)) (.tmp 106), none⟩])
  (.cond (.tmp 107)
    (.seq
    (.reg [
      ⟨some 4, .assign (.const (.bool false)), none⟩])
    .ret)
    .skip))
  (.seq
  (.seq
  (.reg [
    ⟨some 108, .move (.tmp 20), none⟩,
    ⟨some 109, .unOp .not 4 (.tmp 108), none⟩])
  (.cond (.tmp 109)
    (.seq
    (.reg [
      ⟨some 4, .assign (.const (.bool true)), none⟩])
    .ret)
    .skip))
  (.seq
  (.reg [
    ⟨some 111, .move (.tmp 19), none⟩,
    ⟨some 112, .call { callee := .value (.func 25), args := #[.tmp 111], argTypes := #[3] }, none⟩,
    ⟨some 110, .move (.tmp 112), none⟩,
    ⟨some 113, .extract (.tmp 110) 0, none⟩,
    ⟨some 114, .extract (.tmp 110) 1, none⟩,
    ⟨some 21, .assign (.tmp 113), none⟩,
    ⟨some 22, .assign (.tmp 114), none⟩])
  (.seq
  (.reg [
    ⟨some 115, .move (.tmp 22), none⟩,
    ⟨some 116, .move (.tmp 115), none⟩,
    ⟨some 117, .move (.tmp 21), some (116, true)⟩,
    ⟨some 118, .move (.tmp 15), some (116, true)⟩,
    ⟨some 119, .move (.tmp 15), some (116, true)⟩,
    ⟨some 120, .call { callee := .builtin .len, args := #[.tmp 119], argTypes := #[22] }, some (116, true)⟩,
    ⟨some 121, .binOp .sub 3 (.tmp 120) (.const (.int .i64 1)) 3, some (116, true)⟩,
    ⟨some 122, .slice 22 (.tmp 118) none (some (.tmp 121)) none, some (116, true)⟩,
    ⟨some 123, .call { callee := .value (.func 38), args := #[.tmp 117, .tmp 122], argTypes := #[22, 22] }, some (116, true)⟩,
    ⟨some 124, .pick (.tmp 116) (.tmp 123) (.const (.bool false)), none⟩,
    ⟨some 125, .move (.tmp 124), none⟩,
    ⟨some 126, .move (.tmp 15), some (125, true)⟩,
    ⟨some 127, .move (.tmp 15), some (125, true)⟩,
    ⟨some 128, .call { callee := .builtin .len, args := #[.tmp 127], argTypes := #[22] }, some (125, true)⟩,
    ⟨some 129, .binOp .sub 3 (.tmp 128) (.const (.int .i64 1)) 3, some (125, true)⟩,
    ⟨some 130, .indexAddr 22 (.tmp 126) (.tmp 129), some (125, true)⟩,
    ⟨some 131, .load 3 (.tmp 130), some (125, true)⟩,
    ⟨some 132, .move (.tmp 14), some (125, true)⟩,
    ⟨some 133, .binOp .eql 3 (.tmp 131) (.tmp 132) 3, some (125, true)⟩,
    ⟨some 134, .pick (.tmp 125) (.tmp 133) (.const (.bool false)), none⟩,
    ⟨some 4, .assign (.tmp 134), none⟩])
  .ret)))))))))))))))
theorem hd9 : Try.f9.body.map dec = some c9 := by kernel_rfl
theorem e9 {R : AV → AH → Prop} {h : AH} (x0 x1 : AV) (H : h.wf → AI Try.prog c9 (RetQ Try.prog [.tmp 4] R) [x0, x1, un, un, un, un, un, un, un, un, un, un, un, un, un, un, un, un, un, un, un, un, un, un, un, un, un, un, un, un, un, un, un, un, un, un, un, un, un, un, un, un, un, un, un, un, un, un, un, un, un, un, un, un, un, un, un, un, un, un, un, un, un, un, un, un, un, un, un, un, un, un, un, un, un, un, un, un, un, un, un, un, un, un, un, un, un, un, un, un, un, un, un, un, un, un, un, un, un, un, un, un, un, un, un, un, un, un, un, un, un, un, un, un, un, un, un, un, un, un, un, un, un, un, un, un, un, un, un, un, un, un, un, un, un] h) : AC Try.prog 9 [x0, x1] h R :=
  AC_of' (rs := [.tmp 4]) Try.func9 (by kernel_rfl) hd9 Try.ntmps9 rfl H

end Go.Proofs.Ytlgjakoeogpjlaa
