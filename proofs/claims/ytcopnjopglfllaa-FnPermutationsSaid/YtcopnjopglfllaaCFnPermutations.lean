/- The short forms of the functions' code, and facts on types. -/
import Derived.Test.YtcopnjopglfllaaProg
import Derived.Test.YtcopnjopglfllaaD6
namespace Go.Proofs.Ytcopnjopglfllaa
open Go.AL
set_option linter.unusedVariables false
theorem sz0 : szT Try.prog 0 = some 1 := by kernel_rfl
theorem by0 : byT Try.prog 0 = some 0 := by kernel_rfl
theorem ag0 : aggT Try.prog 0 = some false := by kernel_rfl
instance jsz0 : Tsz Try.prog 0 1 := ⟨sz0⟩
instance jby0 : Tby Try.prog 0 0 := ⟨by0⟩
instance jag0 : Tag Try.prog 0 false := ⟨ag0⟩
theorem sz1 : szT Try.prog 1 = some 1 := by kernel_rfl
theorem by1 : byT Try.prog 1 = some 8 := by kernel_rfl
theorem ag1 : aggT Try.prog 1 = some false := by kernel_rfl
instance jsz1 : Tsz Try.prog 1 1 := ⟨sz1⟩
instance jby1 : Tby Try.prog 1 8 := ⟨by1⟩
instance jag1 : Tag Try.prog 1 false := ⟨ag1⟩
theorem ze1 : zeroA Try.prog 1 = some .nf := by kernel_rfl
instance jze1 : Tze Try.prog 1 (.nf) := ⟨ze1⟩
theorem sz2 : szT Try.prog 2 = some 1 := by kernel_rfl
theorem by2 : byT Try.prog 2 = some 8 := by kernel_rfl
theorem ag2 : aggT Try.prog 2 = some false := by kernel_rfl
instance jsz2 : Tsz Try.prog 2 1 := ⟨sz2⟩
instance jby2 : Tby Try.prog 2 8 := ⟨by2⟩
instance jag2 : Tag Try.prog 2 false := ⟨ag2⟩
instance jik2 : Tik Try.prog 2 .i64 := ⟨Try.underlying2⟩
theorem ze2 : zeroA Try.prog 2 = some (.i .i64 0) := by kernel_rfl
instance jze2 : Tze Try.prog 2 (.i .i64 0) := ⟨ze2⟩
theorem sz3 : szT Try.prog 3 = some 1 := by kernel_rfl
theorem by3 : byT Try.prog 3 = some 8 := by kernel_rfl
theorem ag3 : aggT Try.prog 3 = some false := by kernel_rfl
instance jsz3 : Tsz Try.prog 3 1 := ⟨sz3⟩
instance jby3 : Tby Try.prog 3 8 := ⟨by3⟩
instance jag3 : Tag Try.prog 3 false := ⟨ag3⟩
instance jik3 : Tik Try.prog 3 .i64 := ⟨Try.underlying3⟩
theorem ze3 : zeroA Try.prog 3 = some (.i .i64 0) := by kernel_rfl
instance jze3 : Tze Try.prog 3 (.i .i64 0) := ⟨ze3⟩
theorem sz4 : szT Try.prog 4 = some 1 := by kernel_rfl
theorem by4 : byT Try.prog 4 = some 1 := by kernel_rfl
theorem ag4 : aggT Try.prog 4 = some false := by kernel_rfl
instance jsz4 : Tsz Try.prog 4 1 := ⟨sz4⟩
instance jby4 : Tby Try.prog 4 1 := ⟨by4⟩
instance jag4 : Tag Try.prog 4 false := ⟨ag4⟩
instance jbo4 : Tbo Try.prog 4 := ⟨Try.underlying4⟩
theorem ze4 : zeroA Try.prog 4 = some (.b false) := by kernel_rfl
instance jze4 : Tze Try.prog 4 (.b false) := ⟨ze4⟩
theorem sz5 : szT Try.prog 5 = some 1 := by kernel_rfl
theorem by5 : byT Try.prog 5 = some 1 := by kernel_rfl
theorem ag5 : aggT Try.prog 5 = some false := by kernel_rfl
instance jsz5 : Tsz Try.prog 5 1 := ⟨sz5⟩
instance jby5 : Tby Try.prog 5 1 := ⟨by5⟩
instance jag5 : Tag Try.prog 5 false := ⟨ag5⟩
instance jik5 : Tik Try.prog 5 .u8 := ⟨Try.underlying5⟩
theorem ze5 : zeroA Try.prog 5 = some (.i .u8 0) := by kernel_rfl
instance jze5 : Tze Try.prog 5 (.i .u8 0) := ⟨ze5⟩
theorem sz9 : szT Try.prog 9 = some 1 := by kernel_rfl
theorem by9 : byT Try.prog 9 = some 16 := by kernel_rfl
theorem ag9 : aggT Try.prog 9 = some false := by kernel_rfl
instance jsz9 : Tsz Try.prog 9 1 := ⟨sz9⟩
instance jby9 : Tby Try.prog 9 16 := ⟨by9⟩
instance jag9 : Tag Try.prog 9 false := ⟨ag9⟩
instance jst9 : Tst Try.prog 9 := ⟨Try.underlying9⟩
theorem ze9 : zeroA Try.prog 9 = some (.s ⟨#[]⟩) := by kernel_rfl
instance jze9 : Tze Try.prog 9 (.s ⟨#[]⟩) := ⟨ze9⟩
theorem sz29 : szT Try.prog 29 = some 1 := by kernel_rfl
theorem by29 : byT Try.prog 29 = some 24 := by kernel_rfl
theorem ag29 : aggT Try.prog 29 = some false := by kernel_rfl
instance jsz29 : Tsz Try.prog 29 1 := ⟨sz29⟩
instance jby29 : Tby Try.prog 29 24 := ⟨by29⟩
instance jag29 : Tag Try.prog 29 false := ⟨ag29⟩
instance jsl29 : Tsl Try.prog 29 5 := ⟨Try.underlying29⟩
theorem ze29 : zeroA Try.prog 29 = some .ns := by kernel_rfl
instance jze29 : Tze Try.prog 29 (.ns) := ⟨ze29⟩
theorem sz31 : szT Try.prog 31 = some 1 := by kernel_rfl
theorem by31 : byT Try.prog 31 = some 24 := by kernel_rfl
theorem ag31 : aggT Try.prog 31 = some false := by kernel_rfl
instance jsz31 : Tsz Try.prog 31 1 := ⟨sz31⟩
instance jby31 : Tby Try.prog 31 24 := ⟨by31⟩
instance jag31 : Tag Try.prog 31 false := ⟨ag31⟩
instance jsl31 : Tsl Try.prog 31 3 := ⟨Try.underlying31⟩
theorem ze31 : zeroA Try.prog 31 = some .ns := by kernel_rfl
instance jze31 : Tze Try.prog 31 (.ns) := ⟨ze31⟩
theorem sz59 : szT Try.prog 59 = some 1 := by kernel_rfl
theorem by59 : byT Try.prog 59 = some 8 := by kernel_rfl
theorem ag59 : aggT Try.prog 59 = some false := by kernel_rfl
instance jsz59 : Tsz Try.prog 59 1 := ⟨sz59⟩
instance jby59 : Tby Try.prog 59 8 := ⟨by59⟩
instance jag59 : Tag Try.prog 59 false := ⟨ag59⟩
theorem ze59 : zeroA Try.prog 59 = some .nf := by kernel_rfl
instance jze59 : Tze Try.prog 59 (.nf) := ⟨ze59⟩
theorem sz60 : szT Try.prog 60 = some 1 := by kernel_rfl
theorem by60 : byT Try.prog 60 = some 8 := by kernel_rfl
theorem ag60 : aggT Try.prog 60 = some false := by kernel_rfl
instance jsz60 : Tsz Try.prog 60 1 := ⟨sz60⟩
instance jby60 : Tby Try.prog 60 8 := ⟨by60⟩
instance jag60 : Tag Try.prog 60 false := ⟨ag60⟩
theorem ze60 : zeroA Try.prog 60 = some .np := by kernel_rfl
instance jze60 : Tze Try.prog 60 (.np) := ⟨ze60⟩
theorem sz61 : szT Try.prog 61 = some 1 := by kernel_rfl
theorem by61 : byT Try.prog 61 = some 8 := by kernel_rfl
theorem ag61 : aggT Try.prog 61 = some false := by kernel_rfl
instance jsz61 : Tsz Try.prog 61 1 := ⟨sz61⟩
instance jby61 : Tby Try.prog 61 8 := ⟨by61⟩
instance jag61 : Tag Try.prog 61 false := ⟨ag61⟩
instance jik61 : Tik Try.prog 61 .u64 := ⟨Try.underlying61⟩
theorem ze61 : zeroA Try.prog 61 = some (.i .u64 0) := by kernel_rfl
instance jze61 : Tze Try.prog 61 (.i .u64 0) := ⟨ze61⟩
theorem sz63 : szT Try.prog 63 = some 3 := by kernel_rfl
theorem by63 : byT Try.prog 63 = some 40 := by kernel_rfl
theorem ag63 : aggT Try.prog 63 = some true := by kernel_rfl
instance jsz63 : Tsz Try.prog 63 3 := ⟨sz63⟩
instance jby63 : Tby Try.prog 63 40 := ⟨by63⟩
instance jag63 : Tag Try.prog 63 true := ⟨ag63⟩
theorem ze63 : zeroA Try.prog 63 = some (.agg [.ns, (.i .i64 0), (.i .u64 0)]) := by kernel_rfl
instance jze63 : Tze Try.prog 63 (.agg [.ns, (.i .i64 0), (.i .u64 0)]) := ⟨ze63⟩
theorem fl63_0 : fldA Try.prog 63 0 = some (0, 1, false) := by kernel_rfl
instance jfl63_0 : Tfl Try.prog 63 0 0 1 false := ⟨fl63_0⟩
theorem fl63_1 : fldA Try.prog 63 1 = some (1, 1, false) := by kernel_rfl
instance jfl63_1 : Tfl Try.prog 63 1 1 1 false := ⟨fl63_1⟩
theorem fl63_2 : fldA Try.prog 63 2 = some (2, 1, false) := by kernel_rfl
instance jfl63_2 : Tfl Try.prog 63 2 2 1 false := ⟨fl63_2⟩
theorem pa63 : plA Try.prog 63 = some [(0, 1), (1, 1), (2, 1)] := by kernel_rfl
instance jpl63 : Tpl Try.prog 63 [(0, 1), (1, 1), (2, 1)] := ⟨pa63⟩
theorem sz85 : szT Try.prog 85 = some 1 := by kernel_rfl
theorem by85 : byT Try.prog 85 = some 8 := by kernel_rfl
theorem ag85 : aggT Try.prog 85 = some false := by kernel_rfl
instance jsz85 : Tsz Try.prog 85 1 := ⟨sz85⟩
instance jby85 : Tby Try.prog 85 8 := ⟨by85⟩
instance jag85 : Tag Try.prog 85 false := ⟨ag85⟩
theorem ze85 : zeroA Try.prog 85 = some .nf := by kernel_rfl
instance jze85 : Tze Try.prog 85 (.nf) := ⟨ze85⟩
theorem sz97 : szT Try.prog 97 = some 1 := by kernel_rfl
theorem by97 : byT Try.prog 97 = some 8 := by kernel_rfl
theorem ag97 : aggT Try.prog 97 = some false := by kernel_rfl
instance jsz97 : Tsz Try.prog 97 1 := ⟨sz97⟩
instance jby97 : Tby Try.prog 97 8 := ⟨by97⟩
instance jag97 : Tag Try.prog 97 false := ⟨ag97⟩
instance jik97 : Tik Try.prog 97 .u64 := ⟨Try.underlying97⟩
theorem ze97 : zeroA Try.prog 97 = some (.i .u64 0) := by kernel_rfl
instance jze97 : Tze Try.prog 97 (.i .u64 0) := ⟨ze97⟩
theorem sz104 : szT Try.prog 104 = some 1 := by kernel_rfl
theorem by104 : byT Try.prog 104 = some 8 := by kernel_rfl
theorem ag104 : aggT Try.prog 104 = some false := by kernel_rfl
instance jsz104 : Tsz Try.prog 104 1 := ⟨sz104⟩
instance jby104 : Tby Try.prog 104 8 := ⟨by104⟩
instance jag104 : Tag Try.prog 104 false := ⟨ag104⟩
instance jik104 : Tik Try.prog 104 .i64 := ⟨Try.underlying104⟩
theorem ze104 : zeroA Try.prog 104 = some (.i .i64 0) := by kernel_rfl
instance jze104 : Tze Try.prog 104 (.i .i64 0) := ⟨ze104⟩
theorem sz111 : szT Try.prog 111 = some 1 := by kernel_rfl
theorem by111 : byT Try.prog 111 = some 4 := by kernel_rfl
theorem ag111 : aggT Try.prog 111 = some false := by kernel_rfl
instance jsz111 : Tsz Try.prog 111 1 := ⟨sz111⟩
instance jby111 : Tby Try.prog 111 4 := ⟨by111⟩
instance jag111 : Tag Try.prog 111 false := ⟨ag111⟩
instance jik111 : Tik Try.prog 111 .u32 := ⟨Try.underlying111⟩
theorem ze111 : zeroA Try.prog 111 = some (.i .u32 0) := by kernel_rfl
instance jze111 : Tze Try.prog 111 (.i .u32 0) := ⟨ze111⟩
theorem sz113 : szT Try.prog 113 = some 1 := by kernel_rfl
theorem by113 : byT Try.prog 113 = some 8 := by kernel_rfl
theorem ag113 : aggT Try.prog 113 = some false := by kernel_rfl
instance jsz113 : Tsz Try.prog 113 1 := ⟨sz113⟩
instance jby113 : Tby Try.prog 113 8 := ⟨by113⟩
instance jag113 : Tag Try.prog 113 false := ⟨ag113⟩
instance jik113 : Tik Try.prog 113 .u64 := ⟨Try.underlying113⟩
theorem ze113 : zeroA Try.prog 113 = some (.i .u64 0) := by kernel_rfl
instance jze113 : Tze Try.prog 113 (.i .u64 0) := ⟨ze113⟩
theorem sz117 : szT Try.prog 117 = some 1 := by kernel_rfl
theorem by117 : byT Try.prog 117 = some 8 := by kernel_rfl
theorem ag117 : aggT Try.prog 117 = some false := by kernel_rfl
instance jsz117 : Tsz Try.prog 117 1 := ⟨sz117⟩
instance jby117 : Tby Try.prog 117 8 := ⟨by117⟩
instance jag117 : Tag Try.prog 117 false := ⟨ag117⟩
theorem ze117 : zeroA Try.prog 117 = some .np := by kernel_rfl
instance jze117 : Tze Try.prog 117 (.np) := ⟨ze117⟩

/-- laws.big -/
def c15 : IC :=
  (.seq
  (.reg [
    ⟨some 4, .assign (.const (.bool false)), none⟩])
  (.seq
  (.reg [
    ⟨some 5, .move (.tmp 0), none⟩,
    ⟨some 6, .call { callee := .builtin .len, args := #[.tmp 5], argTypes := #[29] }, none⟩,
    ⟨some 7, .binOp .gtr 3 (.tmp 6) (.const (.int .i64 1048576)) 3, none⟩,
    ⟨some 8, .move (.tmp 7), none⟩,
    ⟨some 9, .move (.tmp 1), some (8, false)⟩,
    ⟨some 10, .call { callee := .builtin .len, args := #[.tmp 9], argTypes := #[29] }, some (8, false)⟩,
    ⟨some 11, .move (.tmp 0), some (8, false)⟩,
    ⟨some 12, .call { callee := .builtin .len, args := #[.tmp 11], argTypes := #[29] }, some (8, false)⟩,
    ⟨some 13, .binOp .sub 3 (.const (.int .i64 1048576)) (.tmp 12) 3, some (8, false)⟩,
    ⟨some 14, .binOp .gtr 3 (.tmp 10) (.tmp 13) 3, some (8, false)⟩,
    ⟨some 15, .pick (.tmp 8) (.const (.bool true)) (.tmp 14), none⟩,
    ⟨some 4, .assign (.tmp 15), none⟩])
  .ret))
theorem hd15 : Try.f15.body.map dec = some c15 := by kernel_rfl
theorem e15 {R : AV → AH → Prop} {h : AH} (x0 x1 : AV) (H : h.wf → AI Try.prog c15 (RetQ Try.prog [.tmp 4] R) [x0, x1, un, un, un, un, un, un, un, un, un, un, un, un, un, un] h) : AC Try.prog 15 [x0, x1] h R :=
  AC_of' (rs := [.tmp 4]) Try.func15 (by kernel_rfl) hd15 Try.ntmps15 rfl H

noncomputable def rg88_0 : Array Oper := rawAt Try.f88 0
noncomputable def rg88_1 : Array Oper := rawAt Try.f88 1
noncomputable def rg88_2 : Array Oper := rawAt Try.f88 2
/-- (*spec.l1Cur).next -/
noncomputable def c88 : IC :=
  (.seq
  (.reg [
    ⟨some 2, .assign (.const (.int .i64 0)), none⟩])
  (.seq
  (.reg [
    ⟨some 3, .assign (.const (.int .i64 0)), none⟩])
  (.seq
  (.seq
  (.raw (.region 2 rg88_0 true))
  (.cond (.tmp 13)
    (.raw (.region 3 rg88_1 true))
    .skip))
  (.seq
  (.reg [
    ⟨some 25, .move (.tmp 0), none⟩,
    ⟨some 26, .nilCheck (.tmp 25), none⟩,
    ⟨some 27, .fieldAddr 63 (.tmp 26) 1, none⟩,
    ⟨some 28, .load 3 (.tmp 27), none⟩,
    ⟨some 29, .binOp .add 3 (.tmp 28) (.const (.int .i64 1)) 3, none⟩,
    ⟨some 30, .nilCheck (.tmp 25), none⟩,
    ⟨some 31, .fieldAddr 63 (.tmp 30) 1, none⟩,
    ⟨none, .store 3 (.tmp 31) (.tmp 29), none⟩])
  (.seq
  (.reg [
    ⟨some 32, .move (.tmp 0), none⟩,
    ⟨some 33, .move (.tmp 0), none⟩,
    ⟨some 34, .nilCheck (.tmp 33), none⟩,
    ⟨some 35, .fieldAddr 63 (.tmp 34) 2, none⟩,
    ⟨some 36, .load 61 (.tmp 35), none⟩,
    ⟨some 37, .binOp .mul 61 (.tmp 36) (.const (.int .u64 6364136223846793005)) 61, none⟩,
    ⟨some 38, .move (.tmp 3), none⟩,
    ⟨some 39, .convert 3 61 (.tmp 38), none⟩,
    ⟨some 40, .binOp .add 61 (.tmp 37) (.tmp 39) 61, none⟩,
    ⟨some 41, .binOp .add 61 (.tmp 40) (.const (.int .u64 1442695040888963407)) 61, none⟩,
    ⟨some 42, .nilCheck (.tmp 32), none⟩,
    ⟨some 43, .fieldAddr 63 (.tmp 42) 2, none⟩,
    ⟨none, .store 61 (.tmp 43) (.tmp 41), none⟩])
  (.seq
  (.seq
  (.raw (.region 6 rg88_2 true))
  (.cond (.tmp 53)
    (.seq
    (.reg [
      ⟨some 54, .move (.tmp 3), none⟩,
      ⟨some 2, .assign (.tmp 54), none⟩])
    .ret)
    .skip))
  (.seq
  (.reg [
    ⟨some 55, .move (.tmp 0), none⟩,
    ⟨some 56, .nilCheck (.tmp 55), none⟩,
    ⟨some 57, .fieldAddr 63 (.tmp 56) 2, none⟩,
    ⟨some 58, .load 61 (.tmp 57), none⟩,
    ⟨some 59, .binOp .shr 61 (.tmp 58) (.const (.int .u64 40)) 97, none⟩,
    ⟨some 60, .binOp .and 61 (.tmp 59) (.const (.int .u64 255)) 61, none⟩,
    ⟨some 61, .convert 61 3 (.tmp 60), none⟩,
    ⟨some 2, .assign (.tmp 61), none⟩])
  .ret)))))))
theorem hd88 : Try.f88.body.map dec = some c88 := by kernel_rfl
theorem e88 {R : AV → AH → Prop} {h : AH} (x0 : AV) (H : h.wf → AI Try.prog c88 (RetQ Try.prog [.tmp 2] R) [x0, un, un, un, un, un, un, un, un, un, un, un, un, un, un, un, un, un, un, un, un, un, un, un, un, un, un, un, un, un, un, un, un, un, un, un, un, un, un, un, un, un, un, un, un, un, un, un, un, un, un, un, un, un, un, un, un, un, un, un, un, un] h) : AC Try.prog 88 [x0] h R :=
  AC_of' (rs := [.tmp 2]) Try.func88 (by kernel_rfl) hd88 Try.ntmps88 rfl H
theorem dz88_0 {h0 : AH} {L : List It} {Q : Exit → List AV → List It → Prop} {a : List AV} {id : Nat} (H : LX Try.prog ⟨[], []⟩ h0 L L (.c (⟨some 4, .move (.tmp 0), none⟩, .p) <| .c (⟨some 5, .nilCheck (.tmp 4), none⟩, .p) <| .c (⟨some 6, .fieldAddr 63 (.tmp 5) 1, none⟩, .p) <| .c (⟨some 7, .load 3 (.tmp 6), none⟩, .l) <| .c (⟨some 8, .move (.tmp 0), none⟩, .p) <| .c (⟨some 9, .nilCheck (.tmp 8), none⟩, .p) <| .c (⟨some 10, .fieldAddr 63 (.tmp 9) 0, none⟩, .p) <| .c (⟨some 11, .load 29 (.tmp 10), none⟩, .l) <| .c (⟨some 12, .call { callee := .builtin .len, args := #[.tmp 11], argTypes := #[29] }, none⟩, .p) <| .c (⟨some 13, .binOp .lss 3 (.tmp 7) (.tmp 12) 3, none⟩, .p) <| .n) Q a) : LI Try.prog h0 L (.raw (.region id rg88_0 true)) Q a :=
  LI_draw (.c (0, .p) <| .c (1, .p) <| .c (2, .p) <| .c (3, .l) <| .c (4, .p) <| .c (5, .p) <| .c (6, .p) <| .c (7, .l) <| .c (8, .p) <| .c (9, .p) <| .n) [] (by kernel_rfl) (by kernel_rfl) (by kernel_rfl) H
theorem dr88_0 (m : Nat) {Q : Exit → List AV → AH → Prop} {a : List AV} {h : AH} {id : Nat} (H : AX Try.prog m h [(⟨some 4, .move (.tmp 0), none⟩, true),
  (⟨some 5, .nilCheck (.tmp 4), none⟩, true),
  (⟨some 6, .fieldAddr 63 (.tmp 5) 1, none⟩, true),
  (⟨some 7, .load 3 (.tmp 6), none⟩, true),
  (⟨some 8, .move (.tmp 0), none⟩, true),
  (⟨some 9, .nilCheck (.tmp 8), none⟩, true),
  (⟨some 10, .fieldAddr 63 (.tmp 9) 0, none⟩, true),
  (⟨some 11, .load 29 (.tmp 10), none⟩, true),
  (⟨some 12, .call { callee := .builtin .len, args := #[.tmp 11], argTypes := #[29] }, none⟩, true),
  (⟨some 13, .binOp .lss 3 (.tmp 7) (.tmp 12) 3, none⟩, true)] (fun a' h' => Q .normal a' h') a h) : AI Try.prog (.raw (.region id rg88_0 true)) Q a h :=
  AI_draw [(0, true), (1, true), (2, true), (3, true), (4, true), (5, true), (6, true), (7, true), (8, true), (9, true)] m (by kernel_rfl) (by kernel_rfl) (by kernel_rfl) H
theorem dz88_1 {h0 : AH} {L : List It} {Q : Exit → List AV → List It → Prop} {a : List AV} {id : Nat} (H : LX Try.prog ⟨[], []⟩ h0 L L (.c (⟨some 14, .move (.tmp 0), none⟩, .p) <| .c (⟨some 15, .nilCheck (.tmp 14), none⟩, .p) <| .c (⟨some 16, .fieldAddr 63 (.tmp 15) 0, none⟩, .p) <| .c (⟨some 17, .load 29 (.tmp 16), none⟩, .l) <| .c (⟨some 18, .move (.tmp 0), none⟩, .p) <| .c (⟨some 19, .nilCheck (.tmp 18), none⟩, .p) <| .c (⟨some 20, .fieldAddr 63 (.tmp 19) 1, none⟩, .p) <| .c (⟨some 21, .load 3 (.tmp 20), none⟩, .l) <| .c (⟨some 22, .indexAddr 29 (.tmp 17) (.tmp 21), none⟩, .p) <| .c (⟨some 23, .load 5 (.tmp 22), none⟩, .l) <| .c (⟨some 24, .convert 5 3 (.tmp 23), none⟩, .p) <| .c (⟨some 3, .assign (.tmp 24), none⟩, .p) <| .n) Q a) : LI Try.prog h0 L (.raw (.region id rg88_1 true)) Q a :=
  LI_draw (.c (0, .p) <| .c (1, .p) <| .c (2, .p) <| .c (3, .l) <| .c (4, .p) <| .c (5, .p) <| .c (6, .p) <| .c (7, .l) <| .c (8, .p) <| .c (9, .l) <| .c (10, .p) <| .c (11, .p) <| .n) [] (by kernel_rfl) (by kernel_rfl) (by kernel_rfl) H
theorem dr88_1 (m : Nat) {Q : Exit → List AV → AH → Prop} {a : List AV} {h : AH} {id : Nat} (H : AX Try.prog m h [(⟨some 14, .move (.tmp 0), none⟩, true),
  (⟨some 15, .nilCheck (.tmp 14), none⟩, true),
  (⟨some 16, .fieldAddr 63 (.tmp 15) 0, none⟩, true),
  (⟨some 17, .load 29 (.tmp 16), none⟩, true),
  (⟨some 18, .move (.tmp 0), none⟩, true),
  (⟨some 19, .nilCheck (.tmp 18), none⟩, true),
  (⟨some 20, .fieldAddr 63 (.tmp 19) 1, none⟩, true),
  (⟨some 21, .load 3 (.tmp 20), none⟩, true),
  (⟨some 22, .indexAddr 29 (.tmp 17) (.tmp 21), none⟩, true),
  (⟨some 23, .load 5 (.tmp 22), none⟩, true),
  (⟨some 24, .convert 5 3 (.tmp 23), none⟩, true),
  (⟨some 3, .assign (.tmp 24), none⟩, true)] (fun a' h' => Q .normal a' h') a h) : AI Try.prog (.raw (.region id rg88_1 true)) Q a h :=
  AI_draw [(0, true), (1, true), (2, true), (3, true), (4, true), (5, true), (6, true), (7, true), (8, true), (9, true), (10, true), (11, true)] m (by kernel_rfl) (by kernel_rfl) (by kernel_rfl) H
theorem dz88_2 {h0 : AH} {L : List It} {Q : Exit → List AV → List It → Prop} {a : List AV} {id : Nat} (H : LX Try.prog ⟨[], []⟩ h0 L L (.c (⟨some 44, .move (.tmp 0), none⟩, .p) <| .c (⟨some 45, .nilCheck (.tmp 44), none⟩, .p) <| .c (⟨some 46, .fieldAddr 63 (.tmp 45) 1, none⟩, .p) <| .c (⟨some 47, .load 3 (.tmp 46), none⟩, .l) <| .c (⟨some 48, .move (.tmp 0), none⟩, .p) <| .c (⟨some 49, .nilCheck (.tmp 48), none⟩, .p) <| .c (⟨some 50, .fieldAddr 63 (.tmp 49) 0, none⟩, .p) <| .c (⟨some 51, .load 29 (.tmp 50), none⟩, .l) <| .c (⟨some 52, .call { callee := .builtin .len, args := #[.tmp 51], argTypes := #[29] }, none⟩, .p) <| .c (⟨some 53, .binOp .leq 3 (.tmp 47) (.tmp 52) 3, none⟩, .p) <| .n) Q a) : LI Try.prog h0 L (.raw (.region id rg88_2 true)) Q a :=
  LI_draw (.c (0, .p) <| .c (1, .p) <| .c (2, .p) <| .c (3, .l) <| .c (4, .p) <| .c (5, .p) <| .c (6, .p) <| .c (7, .l) <| .c (8, .p) <| .c (9, .p) <| .n) [] (by kernel_rfl) (by kernel_rfl) (by kernel_rfl) H
theorem dr88_2 (m : Nat) {Q : Exit → List AV → AH → Prop} {a : List AV} {h : AH} {id : Nat} (H : AX Try.prog m h [(⟨some 44, .move (.tmp 0), none⟩, true),
  (⟨some 45, .nilCheck (.tmp 44), none⟩, true),
  (⟨some 46, .fieldAddr 63 (.tmp 45) 1, none⟩, true),
  (⟨some 47, .load 3 (.tmp 46), none⟩, true),
  (⟨some 48, .move (.tmp 0), none⟩, true),
  (⟨some 49, .nilCheck (.tmp 48), none⟩, true),
  (⟨some 50, .fieldAddr 63 (.tmp 49) 0, none⟩, true),
  (⟨some 51, .load 29 (.tmp 50), none⟩, true),
  (⟨some 52, .call { callee := .builtin .len, args := #[.tmp 51], argTypes := #[29] }, none⟩, true),
  (⟨some 53, .binOp .leq 3 (.tmp 47) (.tmp 52) 3, none⟩, true)] (fun a' h' => Q .normal a' h') a h) : AI Try.prog (.raw (.region id rg88_2 true)) Q a h :=
  AI_draw [(0, true), (1, true), (2, true), (3, true), (4, true), (5, true), (6, true), (7, true), (8, true), (9, true)] m (by kernel_rfl) (by kernel_rfl) (by kernel_rfl) H

/-- (*spec.l1Cur).pick -/
def c73 : IC :=
  (.seq
  (.reg [
    ⟨some 4, .assign (.const (.int .i64 0)), none⟩])
  (.seq
  (.seq
  (.reg [
    ⟨some 6, .move (.tmp 1), none⟩,
    ⟨some 7, .binOp .leq 3 (.tmp 6) (.const (.int .i64 1)) 3, none⟩])
  (.cond (.tmp 7)
    (.seq
    (.reg [
      ⟨some 4, .assign (.const (.int .i64 0)), none⟩])
    .ret)
    .skip))
  (.seq
  (.reg [
    ⟨some 8, .move (.tmp 0), none⟩,
    ⟨some 9, .call { callee := .value (.func 88), args := #[.tmp 8], argTypes := #[60] }, none⟩,
    ⟨some 5, .assign (.tmp 9), none⟩])
  (.seq
  (.seq
  (.reg [
    ⟨some 10, .move (.tmp 1), none⟩,
    ⟨some 11, .binOp .gtr 3 (.tmp 10) (.const (.int .i64 200)) 3, none⟩])
  (.cond (.tmp 11)
    (.reg [
      ⟨some 12, .move (.tmp 5), none⟩,
      ⟨some 13, .binOp .mul 3 (.tmp 12) (.const (.int .i64 256)) 3, none⟩,
      ⟨some 14, .move (.tmp 0), none⟩,
      ⟨some 15, .call { callee := .value (.func 88), args := #[.tmp 14], argTypes := #[60] }, none⟩,
      ⟨some 16, .binOp .add 3 (.tmp 13) (.tmp 15) 3, none⟩,
      ⟨some 5, .assign (.tmp 16), none⟩])
    .skip))
  (.seq
  (.reg [
    ⟨some 17, .move (.tmp 5), none⟩,
    ⟨some 18, .move (.tmp 1), none⟩,
    ⟨some 19, .binOp .rem 3 (.tmp 17) (.tmp 18) 3, none⟩,
    ⟨some 4, .assign (.tmp 19), none⟩])
  .ret)))))
theorem hd73 : Try.f73.body.map dec = some c73 := by kernel_rfl
theorem e73 {R : AV → AH → Prop} {h : AH} (x0 x1 : AV) (H : h.wf → AI Try.prog c73 (RetQ Try.prog [.tmp 4] R) [x0, x1, un, un, un, un, un, un, un, un, un, un, un, un, un, un, un, un, un, un] h) : AC Try.prog 73 [x0, x1] h R :=
  AC_of' (rs := [.tmp 4]) Try.func73 (by kernel_rfl) hd73 Try.ntmps73 rfl H

/-- (*spec.l1Cur).one -/
def c47 : IC :=
  (.seq
  (.reg [
    ⟨some 4, .assign (.const (.bool false)), none⟩])
  (.seq
  (.reg [
    ⟨some 5, .move (.tmp 0), none⟩,
    ⟨some 6, .move (.tmp 1), none⟩,
    ⟨some 7, .call { callee := .value (.func 73), args := #[.tmp 5, .tmp 6], argTypes := #[60, 3] }, none⟩,
    ⟨some 8, .binOp .eql 3 (.tmp 7) (.const (.int .i64 0)) 3, none⟩,
    ⟨some 4, .assign (.tmp 8), none⟩])
  .ret))
theorem hd47 : Try.f47.body.map dec = some c47 := by kernel_rfl
theorem e47 {R : AV → AH → Prop} {h : AH} (x0 x1 : AV) (H : h.wf → AI Try.prog c47 (RetQ Try.prog [.tmp 4] R) [x0, x1, un, un, un, un, un, un, un] h) : AC Try.prog 47 [x0, x1] h R :=
  AC_of' (rs := [.tmp 4]) Try.func47 (by kernel_rfl) hd47 Try.ntmps47 rfl H

/-- (*spec.l1Cur).among -/
def c72 : IC :=
  (.seq
  (.reg [
    ⟨some 4, .assign (.const (.int .i64 0)), none⟩])
  (.seq
  (.reg [
    ⟨some 5, .move (.tmp 1), none⟩,
    ⟨some 6, .move (.tmp 0), none⟩,
    ⟨some 7, .move (.tmp 1), none⟩,
    ⟨some 8, .call { callee := .builtin .len, args := #[.tmp 7], argTypes := #[31] }, none⟩,
    ⟨some 9, .call { callee := .value (.func 73), args := #[.tmp 6, .tmp 8], argTypes := #[60, 3] }, none⟩,
    ⟨some 10, .indexAddr 31 (.tmp 5) (.tmp 9), none⟩,
    ⟨some 11, .load 3 (.tmp 10), none⟩,
    ⟨some 4, .assign (.tmp 11), none⟩])
  .ret))
theorem hd72 : Try.f72.body.map dec = some c72 := by kernel_rfl
theorem e72 {R : AV → AH → Prop} {h : AH} (x0 x1 : AV) (H : h.wf → AI Try.prog c72 (RetQ Try.prog [.tmp 4] R) [x0, x1, un, un, un, un, un, un, un, un, un, un] h) : AC Try.prog 72 [x0, x1] h R :=
  AC_of' (rs := [.tmp 4]) Try.func72 (by kernel_rfl) hd72 Try.ntmps72 rfl H

/-- (*spec.l1Cur).points -/
def c46 : IC :=
  (.seq
  (.reg [
    ⟨some 2, .assign (.const (.int .i64 0)), none⟩])
  (.seq
  (.seq
  (.reg [
    ⟨some 3, .move (.tmp 0), none⟩,
    ⟨some 4, .call { callee := .value (.func 47), args := #[.tmp 3, .const (.int .i64 20)], argTypes := #[60, 3] }, none⟩])
  (.cond (.tmp 4)
    (.seq
    (.reg [
      ⟨some 5, .move (.tmp 0), none⟩,
      ⟨some 6, .buildSlice 31 3 #[(0, .const (.int .i64 0)), (1, .const (.int .i64 8)), (2, .const (.int .i64 9))], none⟩,
      ⟨some 7, .call { callee := .value (.func 72), args := #[.tmp 5, .tmp 6], argTypes := #[60, 31] }, none⟩,
      ⟨some 2, .assign (.tmp 7), none⟩])
    .ret)
    .skip))
  (.seq
  (.reg [
    ⟨some 8, .move (.tmp 0), none⟩,
    ⟨some 9, .call { callee := .value (.func 73), args := #[.tmp 8, .const (.int .i64 6)], argTypes := #[60, 3] }, none⟩,
    ⟨some 10, .binOp .add 3 (.const (.int .i64 1)) (.tmp 9) 3, none⟩,
    ⟨some 2, .assign (.tmp 10), none⟩])
  .ret)))
theorem hd46 : Try.f46.body.map dec = some c46 := by kernel_rfl
theorem e46 {R : AV → AH → Prop} {h : AH} (x0 : AV) (H : h.wf → AI Try.prog c46 (RetQ Try.prog [.tmp 2] R) [x0, un, un, un, un, un, un, un, un, un, un] h) : AC Try.prog 46 [x0] h R :=
  AC_of' (rs := [.tmp 2]) Try.func46 (by kernel_rfl) hd46 Try.ntmps46 rfl H

/-- (*spec.l1Cur).permutation -/
def c48 : IC :=
  (.seq
  (.reg [
    ⟨some 4, .assign (.const (.slice none 0 0)), none⟩])
  (.seq
  (.reg [
    ⟨some 5, .assign (.const (.slice none 0 0)), none⟩])
  (.seq
  (.seq
  (.reg [
    ⟨some 6, .assign (.const (.int .i64 0)), none⟩])
  (.block 0
  (.loop
    (.seq
    (.seq
    (.reg [
      ⟨some 9, .move (.tmp 6), none⟩,
      ⟨some 10, .move (.tmp 1), none⟩,
      ⟨some 11, .binOp .lss 3 (.tmp 9) (.tmp 10) 3, none⟩])
    (.cond (.tmp 11)
      .skip
      (.exit 0)))
    (.seq
    (.block 1
    (.seq
    (.reg [
      ⟨some 14, .move (.tmp 0), none⟩,
      ⟨some 15, .move (.tmp 6), none⟩,
      ⟨some 16, .binOp .add 3 (.tmp 15) (.const (.int .i64 1)) 3, none⟩,
      ⟨some 17, .call { callee := .value (.func 73), args := #[.tmp 14, .tmp 16], argTypes := #[60, 3] }, none⟩,
      ⟨some 7, .assign (.tmp 17), none⟩])
    (.seq
    (.reg [
      ⟨some 18, .buildSlice 31 0 #[], none⟩,
      ⟨some 19, .move (.tmp 5), none⟩,
      ⟨some 20, .move (.tmp 7), none⟩,
      ⟨some 21, .slice 31 (.tmp 19) none (some (.tmp 20)) none, none⟩,
      ⟨some 22, .call { callee := .builtin .append, args := #[.tmp 18, .tmp 21], argTypes := #[31, 31] }, none⟩,
      ⟨some 8, .assign (.tmp 22), none⟩])
    (.seq
    (.reg [
      ⟨some 23, .move (.tmp 8), none⟩,
      ⟨some 24, .move (.tmp 6), none⟩,
      ⟨some 25, .buildSlice 31 1 #[(0, .tmp 24)], none⟩,
      ⟨some 26, .call { callee := .builtin .append, args := #[.tmp 23, .tmp 25], argTypes := #[31, 31] }, none⟩,
      ⟨some 8, .assign (.tmp 26), none⟩])
    (.reg [
      ⟨some 27, .move (.tmp 8), none⟩,
      ⟨some 28, .move (.tmp 5), none⟩,
      ⟨some 29, .move (.tmp 7), none⟩,
      ⟨some 30, .slice 31 (.tmp 28) (some (.tmp 29)) none none, none⟩,
      ⟨some 31, .call { callee := .builtin .append, args := #[.tmp 27, .tmp 30], argTypes := #[31, 31] }, none⟩,
      ⟨some 5, .assign (.tmp 31), none⟩])))))
    (.reg [
      ⟨some 12, .move (.tmp 6), none⟩,
      ⟨some 13, .binOp .add 3 (.tmp 12) (.const (.int .i64 1)) 3, none⟩,
      ⟨some 6, .assign (.tmp 13), none⟩]))))))
  (.seq
  (.seq
  (.reg [
    ⟨some 32, .move (.tmp 5), none⟩,
    ⟨some 33, .call { callee := .builtin .len, args := #[.tmp 32], argTypes := #[31] }, none⟩,
    ⟨some 34, .binOp .gtr 3 (.tmp 33) (.const (.int .i64 0)) 3, none⟩,
    ⟨some 35, .move (.tmp 34), none⟩,
    ⟨some 36, .move (.tmp 0), some (35, true)⟩,
    ⟨some 37, .call { callee := .value (.func 47), args := #[.tmp 36, .const (.int .i64 40)], argTypes := #[60, 3] }, some (35, true)⟩,
    ⟨some 38, .pick (.tmp 35) (.tmp 37) (.const (.bool false)), none⟩])
  (.cond (.tmp 38)
    (.reg [
      ⟨some 39, .move (.tmp 5), none⟩,
      ⟨some 40, .move (.tmp 0), none⟩,
      ⟨some 41, .move (.tmp 5), none⟩,
      ⟨some 42, .call { callee := .builtin .len, args := #[.tmp 41], argTypes := #[31] }, none⟩,
      ⟨some 43, .call { callee := .value (.func 73), args := #[.tmp 40, .tmp 42], argTypes := #[60, 3] }, none⟩,
      ⟨some 44, .move (.tmp 0), none⟩,
      ⟨some 45, .move (.tmp 1), none⟩,
      ⟨some 46, .buildSlice 31 4 #[(0, .const (.int .i64 (-1))), (1, .const (.int .i64 0)), (2, .tmp 45), (3, .const (.int .i64 4611686018427387904))], none⟩,
      ⟨some 47, .call { callee := .value (.func 72), args := #[.tmp 44, .tmp 46], argTypes := #[60, 31] }, none⟩,
      ⟨some 48, .indexAddr 31 (.tmp 39) (.tmp 43), none⟩,
      ⟨none, .store 3 (.tmp 48) (.tmp 47), none⟩])
    .skip))
  (.seq
  (.reg [
    ⟨some 49, .move (.tmp 5), none⟩,
    ⟨some 4, .assign (.tmp 49), none⟩])
  .ret)))))
theorem hd48 : Try.f48.body.map dec = some c48 := by kernel_rfl
theorem e48 {R : AV → AH → Prop} {h : AH} (x0 x1 : AV) (H : h.wf → AI Try.prog c48 (RetQ Try.prog [.tmp 4] R) [x0, x1, un, un, un, un, un, un, un, un, un, un, un, un, un, un, un, un, un, un, un, un, un, un, un, un, un, un, un, un, un, un, un, un, un, un, un, un, un, un, un, un, un, un, un, un, un, un, un, un] h) : AC Try.prog 48 [x0, x1] h R :=
  AC_of' (rs := [.tmp 4]) Try.func48 (by kernel_rfl) hd48 Try.ntmps48 rfl H

/-- spec.DrawThenPermutation -/
def c16 : IC :=
  (.seq
  (.reg [
    ⟨some 2, .assign (.const (.slice none 0 0)), none⟩,
    ⟨some 3, .assign (.const (.slice none 0 0)), none⟩])
  (.seq
  (.reg [
    ⟨some 6, .move (.tmp 0), none⟩,
    ⟨some 7, .build 63 #[(0, .tmp 6)], none⟩,
    ⟨some 8, .box 63 (.tmp 7), none⟩,
    ⟨some 4, .assign (.tmp 8), none⟩])
  (.seq
  (.reg [
    ⟨some 9, .move (.tmp 4), none⟩,
    ⟨some 10, .call { callee := .value (.func 46), args := #[.tmp 9], argTypes := #[60] }, none⟩,
    ⟨some 5, .assign (.tmp 10), none⟩])
  (.seq
  (.seq
  (.reg [
    ⟨some 11, .move (.tmp 4), none⟩,
    ⟨some 12, .call { callee := .value (.func 47), args := #[.tmp 11, .const (.int .i64 12)], argTypes := #[60, 3] }, none⟩])
  (.cond (.tmp 12)
    (.seq
    (.reg [
      ⟨some 13, .move (.tmp 4), none⟩,
      ⟨some 14, .move (.tmp 5), none⟩,
      ⟨some 15, .call { callee := .value (.func 48), args := #[.tmp 13, .tmp 14], argTypes := #[60, 3] }, none⟩,
      ⟨some 16, .move (.tmp 4), none⟩,
      ⟨some 17, .move (.tmp 4), none⟩,
      ⟨some 18, .call { callee := .value (.func 46), args := #[.tmp 17], argTypes := #[60] }, none⟩,
      ⟨some 19, .call { callee := .value (.func 48), args := #[.tmp 16, .tmp 18], argTypes := #[60, 3] }, none⟩,
      ⟨some 2, .assign (.tmp 15), none⟩,
      ⟨some 3, .assign (.tmp 19), none⟩])
    .ret)
    .skip))
  (.seq
  (.reg [
    ⟨some 20, .move (.tmp 4), none⟩,
    ⟨some 21, .move (.tmp 5), none⟩,
    ⟨some 22, .call { callee := .value (.func 48), args := #[.tmp 20, .tmp 21], argTypes := #[60, 3] }, none⟩,
    ⟨some 23, .move (.tmp 4), none⟩,
    ⟨some 24, .move (.tmp 5), none⟩,
    ⟨some 25, .call { callee := .value (.func 48), args := #[.tmp 23, .tmp 24], argTypes := #[60, 3] }, none⟩,
    ⟨some 2, .assign (.tmp 22), none⟩,
    ⟨some 3, .assign (.tmp 25), none⟩])
  .ret)))))
theorem hd16 : Try.f16.body.map dec = some c16 := by kernel_rfl
theorem e16 {R : AV → AH → Prop} {h : AH} (x0 : AV) (H : h.wf → AI Try.prog c16 (RetQ Try.prog [.tmp 2, .tmp 3] R) [x0, un, un, un, un, un, un, un, un, un, un, un, un, un, un, un, un, un, un, un, un, un, un, un, un, un] h) : AC Try.prog 16 [x0] h R :=
  AC_of' (rs := [.tmp 2, .tmp 3]) Try.func16 (by kernel_rfl) hd16 Try.ntmps16 rfl H

/-- impl.in -/
def c49 : IC :=
  (.seq
  (.reg [
    ⟨some 6, .assign (.const (.bool false)), none⟩])
  (.seq
  (.reg [
    ⟨some 7, .move (.tmp 0), none⟩,
    ⟨some 8, .move (.tmp 1), none⟩,
    ⟨some 9, .binOp .geq 3 (.tmp 7) (.tmp 8) 3, none⟩,
    ⟨some 10, .move (.tmp 9), none⟩,
    ⟨some 11, .move (.tmp 0), some (10, true)⟩,
    ⟨some 12, .move (.tmp 2), some (10, true)⟩,
    ⟨some 13, .binOp .leq 3 (.tmp 11) (.tmp 12) 3, some (10, true)⟩,
    ⟨some 14, .pick (.tmp 10) (.tmp 13) (.const (.bool false)), none⟩,
    ⟨some 6, .assign (.tmp 14), none⟩])
  .ret))
theorem hd49 : Try.f49.body.map dec = some c49 := by kernel_rfl
theorem e49 {R : AV → AH → Prop} {h : AH} (x0 x1 x2 : AV) (H : h.wf → AI Try.prog c49 (RetQ Try.prog [.tmp 6] R) [x0, x1, x2, un, un, un, un, un, un, un, un, un, un, un, un] h) : AC Try.prog 49 [x0, x1, x2] h R :=
  AC_of' (rs := [.tmp 6]) Try.func49 (by kernel_rfl) hd49 Try.ntmps49 rfl H

noncomputable def rg44_0 : Array Oper := rawAt Try.f44 0
/-- slices.Equal[[]int,int] -/
noncomputable def c44 : IC :=
  (.seq
  (.reg [
    ⟨some 4, .assign (.const (.bool false)), none⟩])
  (.seq
  (.seq
  (.reg [
    ⟨some 6, .move (.tmp 0), none⟩,
    ⟨some 7, .call { callee := .builtin .len, args := #[.tmp 6], argTypes := #[31] }, none⟩,
    ⟨some 8, .move (.tmp 1), none⟩,
    ⟨some 9, .call { callee := .builtin .len, args := #[.tmp 8], argTypes := #[31] }, none⟩,
    ⟨some 10, .binOp .neq 3 (.tmp 7) (.tmp 9) 3, none⟩])
  (.cond (.tmp 10)
    (.seq
    (.reg [
      ⟨some 4, .assign (.const (.bool false)), none⟩])
    .ret)
    .skip))
  (.seq
  (.seq
  (.reg [
    ⟨some 11, .move (.tmp 0), none⟩,
    ⟨some 12, .call { callee := .builtin .len, args := #[.tmp 11], argTypes := #[31] }, none⟩,
    ⟨some 13, .move (.const (.int .i64 0)), none⟩])
  (.block 0
  (.loop
    (.seq
    (.reg [
      ⟨some 14, .binOp .lss 3 (.tmp 13) (.tmp 12) 3, none⟩])
    (.seq
    (.cond (.tmp 14)
      .skip
      (.exit 0))
    (.seq
    (.block 1
    (.seq
    (.reg [
      ⟨some 15, .move (.tmp 13), none⟩,
      ⟨some 5, .assign (.tmp 15), none⟩])
    (.seq
    (.raw (.region 6 rg44_0 true))
    (.cond (.tmp 24)
      (.seq
      (.reg [
        ⟨some 4, .assign (.const (.bool false)), none⟩])
      .ret)
      .skip))))
    (.reg [
      ⟨some 25, .binOp .add 3 (.tmp 13) (.const (.int .i64 1)) 3, none⟩,
      ⟨some 13, .move (.tmp 25), none⟩])))))))
  (.seq
  (.reg [
    ⟨some 4, .assign (.const (.bool true)), none⟩])
  .ret))))
theorem hd44 : Try.f44.body.map dec = some c44 := by kernel_rfl
theorem e44 {R : AV → AH → Prop} {h : AH} (x0 x1 : AV) (H : h.wf → AI Try.prog c44 (RetQ Try.prog [.tmp 4] R) [x0, x1, un, un, un, un, un, un, un, un, un, un, un, un, un, un, un, un, un, un, un, un, un, un, un, un] h) : AC Try.prog 44 [x0, x1] h R :=
  AC_of' (rs := [.tmp 4]) Try.func44 (by kernel_rfl) hd44 Try.ntmps44 rfl H
theorem dz44_0 {h0 : AH} {L : List It} {Q : Exit → List AV → List It → Prop} {a : List AV} {id : Nat} (H : LX Try.prog ⟨[], []⟩ h0 L L (.c (⟨some 16, .move (.tmp 0), none⟩, .p) <| .c (⟨some 17, .move (.tmp 5), none⟩, .p) <| .c (⟨some 18, .indexAddr 31 (.tmp 16) (.tmp 17), none⟩, .p) <| .c (⟨some 19, .load 3 (.tmp 18), none⟩, .l) <| .c (⟨some 20, .move (.tmp 1), none⟩, .p) <| .c (⟨some 21, .move (.tmp 5), none⟩, .p) <| .c (⟨some 22, .indexAddr 31 (.tmp 20) (.tmp 21), none⟩, .p) <| .c (⟨some 23, .load 3 (.tmp 22), none⟩, .l) <| .c (⟨some 24, .binOp .neq 3 (.tmp 19) (.tmp 23) 3, none⟩, .p) <| .n) Q a) : LI Try.prog h0 L (.raw (.region id rg44_0 true)) Q a :=
  LI_draw (.c (0, .p) <| .c (1, .p) <| .c (2, .p) <| .c (3, .l) <| .c (4, .p) <| .c (5, .p) <| .c (6, .p) <| .c (7, .l) <| .c (8, .p) <| .n) [] (by kernel_rfl) (by kernel_rfl) (by kernel_rfl) H
theorem dr44_0 (m : Nat) {Q : Exit → List AV → AH → Prop} {a : List AV} {h : AH} {id : Nat} (H : AX Try.prog m h [(⟨some 16, .move (.tmp 0), none⟩, true),
  (⟨some 17, .move (.tmp 5), none⟩, true),
  (⟨some 18, .indexAddr 31 (.tmp 16) (.tmp 17), none⟩, true),
  (⟨some 19, .load 3 (.tmp 18), none⟩, true),
  (⟨some 20, .move (.tmp 1), none⟩, true),
  (⟨some 21, .move (.tmp 5), none⟩, true),
  (⟨some 22, .indexAddr 31 (.tmp 20) (.tmp 21), none⟩, true),
  (⟨some 23, .load 3 (.tmp 22), none⟩, true),
  (⟨some 24, .binOp .neq 3 (.tmp 19) (.tmp 23) 3, none⟩, true)] (fun a' h' => Q .normal a' h') a h) : AI Try.prog (.raw (.region id rg44_0 true)) Q a h :=
  AI_draw [(0, true), (1, true), (2, true), (3, true), (4, true), (5, true), (6, true), (7, true), (8, true)] m (by kernel_rfl) (by kernel_rfl) (by kernel_rfl) H

/-- impl.firsts -/
def c54 : IC :=
  (.seq
  (.reg [
    ⟨some 2, .assign (.const (.slice none 0 0)), none⟩])
  (.seq
  (.reg [
    ⟨some 5, .buildSlice 31 0 #[], none⟩,
    ⟨some 3, .assign (.tmp 5), none⟩])
  (.seq
  (.seq
  (.reg [
    ⟨some 6, .move (.tmp 0), none⟩,
    ⟨some 7, .move (.const (.int .i64 0)), none⟩])
  (.block 0
  (.loop
    (.seq
    (.reg [
      ⟨some 8, .binOp .lss 3 (.tmp 7) (.tmp 6) 3, none⟩])
    (.seq
    (.cond (.tmp 8)
      .skip
      (.exit 0))
    (.seq
    (.block 1
    (.seq
    (.reg [
      ⟨some 9, .move (.tmp 7), none⟩,
      ⟨some 4, .assign (.tmp 9), none⟩])
    (.reg [
      ⟨some 10, .move (.tmp 3), none⟩,
      ⟨some 11, .move (.tmp 4), none⟩,
      ⟨some 12, .buildSlice 31 1 #[(0, .tmp 11)], none⟩,
      ⟨some 13, .call { callee := .builtin .append, args := #[.tmp 10, .tmp 12], argTypes := #[31, 31] }, none⟩,
      ⟨some 3, .assign (.tmp 13), none⟩])))
    (.reg [
      ⟨some 14, .binOp .add 3 (.tmp 7) (.const (.int .i64 1)) 3, none⟩,
      ⟨some 7, .move (.tmp 14), none⟩])))))))
  (.seq
  (.reg [
    ⟨some 15, .move (.tmp 3), none⟩,
    ⟨some 2, .assign (.tmp 15), none⟩])
  .ret))))
theorem hd54 : Try.f54.body.map dec = some c54 := by kernel_rfl
theorem e54 {R : AV → AH → Prop} {h : AH} (x0 : AV) (H : h.wf → AI Try.prog c54 (RetQ Try.prog [.tmp 2] R) [x0, un, un, un, un, un, un, un, un, un, un, un, un, un, un, un] h) : AC Try.prog 54 [x0] h R :=
  AC_of' (rs := [.tmp 2]) Try.func54 (by kernel_rfl) hd54 Try.ntmps54 rfl H

-- slices.AppendSeq[[]int,int] ranges over a function

/-- slices.Collect[int] -/
def c89 : IC :=
  (.seq
  (.reg [
    ⟨some 2, .assign (.const (.slice none 0 0)), none⟩])
  (.seq
  (.reg [
    ⟨some 3, .move (.tmp 0), none⟩,
    ⟨some 4, .call { callee := .value (.func 96), args := #[.const (.slice none 0 0), .tmp 3], argTypes := #[31, 85] }, none⟩,
    ⟨some 2, .assign (.tmp 4), none⟩])
  .ret))
theorem hd89 : Try.f89.body.map dec = some c89 := by kernel_rfl
theorem e89 {R : AV → AH → Prop} {h : AH} (x0 : AV) (H : h.wf → AI Try.prog c89 (RetQ Try.prog [.tmp 2] R) [x0, un, un, un, un] h) : AC Try.prog 89 [x0] h R :=
  AC_of' (rs := [.tmp 2]) Try.func89 (by kernel_rfl) hd89 Try.ntmps89 rfl H

/-- slices.Sort[[]int,int] -/
def c90 : IC :=
  (.seq
  (.reg [
    ⟨some 3, .move (.tmp 0), none⟩,
    ⟨some 4, .call { callee := .builtin .len, args := #[.tmp 3], argTypes := #[31] }, none⟩,
    ⟨some 2, .assign (.tmp 4), none⟩])
  (.reg [
    ⟨some 5, .move (.tmp 0), none⟩,
    ⟨some 6, .move (.tmp 2), none⟩,
    ⟨some 7, .move (.tmp 2), none⟩,
    ⟨some 8, .convert 3 97 (.tmp 7), none⟩,
    ⟨some 9, .call { callee := .value (.func 98), args := #[.tmp 8], argTypes := #[97] }, none⟩,
    ⟨some 10, .call { callee := .value (.func 97), args := #[.tmp 5, .const (.int .i64 0), .tmp 6, .tmp 9], argTypes := #[31, 3, 3, 3] }, none⟩]))
theorem hd90 : Try.f90.body.map dec = some c90 := by kernel_rfl
theorem e90 {R : AV → AH → Prop} {h : AH} (x0 : AV) (H : h.wf → AI Try.prog c90 (RetQ Try.prog [] R) [x0, un, un, un, un, un, un, un, un, un, un] h) : AC Try.prog 90 [x0] h R :=
  AC_of' (rs := []) Try.func90 (by kernel_rfl) hd90 Try.ntmps90 rfl H

/-- slices.Sorted[int] -/
def c74 : IC :=
  (.seq
  (.reg [
    ⟨some 2, .assign (.const (.slice none 0 0)), none⟩])
  (.seq
  (.reg [
    ⟨some 4, .move (.tmp 0), none⟩,
    ⟨some 5, .call { callee := .value (.func 89), args := #[.tmp 4], argTypes := #[85] }, none⟩,
    ⟨some 3, .assign (.tmp 5), none⟩])
  (.seq
  (.reg [
    ⟨some 6, .move (.tmp 3), none⟩,
    ⟨some 7, .call { callee := .value (.func 90), args := #[.tmp 6], argTypes := #[31] }, none⟩])
  (.seq
  (.reg [
    ⟨some 8, .move (.tmp 3), none⟩,
    ⟨some 2, .assign (.tmp 8), none⟩])
  .ret))))
theorem hd74 : Try.f74.body.map dec = some c74 := by kernel_rfl
theorem e74 {R : AV → AH → Prop} {h : AH} (x0 : AV) (H : h.wf → AI Try.prog c74 (RetQ Try.prog [.tmp 2] R) [x0, un, un, un, un, un, un, un, un] h) : AC Try.prog 74 [x0] h R :=
  AC_of' (rs := [.tmp 2]) Try.func74 (by kernel_rfl) hd74 Try.ntmps74 rfl H

/-- slices.Values[[]int,int]$1 -/
def c91 : IC :=
  (.seq
  (.reg [
    ⟨some 5, .load 31 (.tmp 1), none⟩,
    ⟨some 6, .call { callee := .builtin .len, args := #[.tmp 5], argTypes := #[31] }, none⟩,
    ⟨some 7, .move (.const (.int .i64 0)), none⟩])
  (.block 0
  (.loop
    (.seq
    (.reg [
      ⟨some 8, .binOp .lss 3 (.tmp 7) (.tmp 6) 3, none⟩])
    (.seq
    (.cond (.tmp 8)
      .skip
      (.exit 0))
    (.seq
    (.block 1
    (.seq
    (.reg [
      ⟨some 9, .indexAddr 31 (.tmp 5) (.tmp 7), none⟩,
      ⟨some 10, .load 3 (.tmp 9), none⟩,
      ⟨some 4, .assign (.tmp 10), none⟩])
    (.seq
    (.reg [
      ⟨some 11, .move (.tmp 0), none⟩,
      ⟨some 12, .move (.tmp 4), none⟩,
      ⟨some 13, .call { callee := .value (.tmp 11), args := #[.tmp 12], argTypes := #[3] }, none⟩,
      ⟨some 14, .unOp .not 4 (.tmp 13), none⟩])
    (.cond (.tmp 14)
      .ret
      .skip))))
    (.reg [
      ⟨some 15, .binOp .add 3 (.tmp 7) (.const (.int .i64 1)) 3, none⟩,
      ⟨some 7, .move (.tmp 15), none⟩])))))))
theorem hd91 : Try.f91.body.map dec = some c91 := by kernel_rfl
theorem e91 {R : AV → AH → Prop} {h : AH} (x0 x1 : AV) (H : h.wf → AI Try.prog c91 (RetQ Try.prog [] R) [x0, x1, un, un, un, un, un, un, un, un, un, un, un, un, un, un] h) : AC Try.prog 91 [x0, x1] h R :=
  AC_of' (rs := []) Try.func91 (by kernel_rfl) hd91 Try.ntmps91 rfl H

/-- slices.Values[[]int,int] -/
def c75 : IC :=
  (.seq
  (.reg [
    ⟨some 1, .box 31 (.tmp 0), none⟩,
    ⟨some 2, .assign (.const .nilFunc), none⟩])
  (.seq
  (.reg [
    ⟨some 3, .makeFunc (.func 91) #[] #[.tmp 1], none⟩,
    ⟨some 2, .assign (.tmp 3), none⟩])
  .ret))
theorem hd75 : Try.f75.body.map dec = some c75 := by kernel_rfl
theorem e75 {R : AV → AH → Prop} {h : AH} (x0 : AV) (H : h.wf → AI Try.prog c75 (RetQ Try.prog [.tmp 2] R) [x0, un, un, un] h) : AC Try.prog 75 [x0] h R :=
  AC_of' (rs := [.tmp 2]) Try.func75 (by kernel_rfl) hd75 Try.ntmps75 rfl H

/-- impl.isOrder -/
def c50 : IC :=
  (.seq
  (.reg [
    ⟨some 4, .assign (.const (.bool false)), none⟩])
  (.seq
  (.reg [
    ⟨some 5, .move (.tmp 0), none⟩,
    ⟨some 6, .call { callee := .value (.func 75), args := #[.tmp 5], argTypes := #[31] }, none⟩,
    ⟨some 7, .call { callee := .value (.func 74), args := #[.tmp 6], argTypes := #[85] }, none⟩,
    ⟨some 8, .move (.tmp 1), none⟩,
    ⟨some 9, .call { callee := .value (.func 54), args := #[.tmp 8], argTypes := #[3] }, none⟩,
    ⟨some 10, .call { callee := .value (.func 44), args := #[.tmp 7, .tmp 9], argTypes := #[31, 31] }, none⟩,
    ⟨some 4, .assign (.tmp 10), none⟩])
  .ret))
theorem hd50 : Try.f50.body.map dec = some c50 := by kernel_rfl
theorem e50 {R : AV → AH → Prop} {h : AH} (x0 x1 : AV) (H : h.wf → AI Try.prog c50 (RetQ Try.prog [.tmp 4] R) [x0, x1, un, un, un, un, un, un, un, un, un] h) : AC Try.prog 50 [x0, x1] h R :=
  AC_of' (rs := [.tmp 4]) Try.func50 (by kernel_rfl) hd50 Try.ntmps50 rfl H

/-- impl.IsPermutation -/
def c20 : IC :=
  (.seq
  (.reg [
    ⟨some 2, .assign (.const (.bool false)), none⟩])
  (.seq
  (.reg [
    ⟨some 3, .move (.tmp 0), none⟩,
    ⟨some 4, .call { callee := .builtin .len, args := #[.tmp 3], argTypes := #[31] }, none⟩,
    ⟨some 5, .call { callee := .value (.func 49), args := #[.tmp 4, .const (.int .i64 1), .const (.int .i64 8)], argTypes := #[3, 3, 3] }, none⟩,
    ⟨some 6, .move (.tmp 5), none⟩,
    ⟨some 7, .move (.tmp 0), some (6, true)⟩,
    ⟨some 8, .move (.tmp 0), some (6, true)⟩,
    ⟨some 9, .call { callee := .builtin .len, args := #[.tmp 8], argTypes := #[31] }, some (6, true)⟩,
    ⟨some 10, .call { callee := .value (.func 50), args := #[.tmp 7, .tmp 9], argTypes := #[31, 3] }, some (6, true)⟩,
    ⟨some 11, .pick (.tmp 6) (.tmp 10) (.const (.bool false)), none⟩,
    ⟨some 2, .assign (.tmp 11), none⟩])
  .ret))
theorem hd20 : Try.f20.body.map dec = some c20 := by kernel_rfl
theorem e20 {R : AV → AH → Prop} {h : AH} (x0 : AV) (H : h.wf → AI Try.prog c20 (RetQ Try.prog [.tmp 2] R) [x0, un, un, un, un, un, un, un, un, un, un, un] h) : AC Try.prog 20 [x0] h R :=
  AC_of' (rs := [.tmp 2]) Try.func20 (by kernel_rfl) hd20 Try.ntmps20 rfl H

/-- impl.renamed -/
def c71 : IC :=
  (.seq
  (.reg [
    ⟨some 4, .assign (.const (.slice none 0 0)), none⟩])
  (.seq
  (.reg [
    ⟨some 8, .buildSlice 31 0 #[], none⟩,
    ⟨some 5, .assign (.tmp 8), none⟩])
  (.seq
  (.seq
  (.reg [
    ⟨some 9, .move (.tmp 0), none⟩,
    ⟨some 10, .call { callee := .builtin .len, args := #[.tmp 9], argTypes := #[31] }, none⟩,
    ⟨some 11, .move (.const (.int .i64 0)), none⟩])
  (.block 0
  (.loop
    (.seq
    (.reg [
      ⟨some 12, .binOp .lss 3 (.tmp 11) (.tmp 10) 3, none⟩])
    (.seq
    (.cond (.tmp 12)
      .skip
      (.exit 0))
    (.seq
    (.block 1
    (.seq
    (.reg [
      ⟨some 13, .indexAddr 31 (.tmp 9) (.tmp 11), none⟩,
      ⟨some 14, .load 3 (.tmp 13), none⟩,
      ⟨some 7, .assign (.tmp 14), none⟩])
    (.reg [
      ⟨some 15, .move (.tmp 5), none⟩,
      ⟨some 16, .move (.tmp 1), none⟩,
      ⟨some 17, .move (.tmp 7), none⟩,
      ⟨some 18, .indexAddr 31 (.tmp 16) (.tmp 17), none⟩,
      ⟨some 19, .load 3 (.tmp 18), none⟩,
      ⟨some 20, .buildSlice 31 1 #[(0, .tmp 19)], none⟩,
      ⟨some 21, .call { callee := .builtin .append, args := #[.tmp 15, .tmp 20], argTypes := #[31, 31] }, none⟩,
      ⟨some 5, .assign (.tmp 21), none⟩])))
    (.reg [
      ⟨some 22, .binOp .add 3 (.tmp 11) (.const (.int .i64 1)) 3, none⟩,
      ⟨some 11, .move (.tmp 22), none⟩])))))))
  (.seq
  (.reg [
    ⟨some 23, .move (.tmp 5), none⟩,
    ⟨some 4, .assign (.tmp 23), none⟩])
  .ret))))
theorem hd71 : Try.f71.body.map dec = some c71 := by kernel_rfl
theorem e71 {R : AV → AH → Prop} {h : AH} (x0 x1 : AV) (H : h.wf → AI Try.prog c71 (RetQ Try.prog [.tmp 4] R) [x0, x1, un, un, un, un, un, un, un, un, un, un, un, un, un, un, un, un, un, un, un, un, un, un] h) : AC Try.prog 71 [x0, x1] h R :=
  AC_of' (rs := [.tmp 4]) Try.func71 (by kernel_rfl) hd71 Try.ntmps71 rfl H

/-- impl.then -/
def c45 : IC :=
  (.seq
  (.reg [
    ⟨some 4, .assign (.const (.slice none 0 0)), none⟩])
  (.seq
  (.reg [
    ⟨some 5, .move (.tmp 0), none⟩,
    ⟨some 6, .move (.tmp 1), none⟩,
    ⟨some 7, .call { callee := .value (.func 71), args := #[.tmp 5, .tmp 6], argTypes := #[31, 31] }, none⟩,
    ⟨some 4, .assign (.tmp 7), none⟩])
  .ret))
theorem hd45 : Try.f45.body.map dec = some c45 := by kernel_rfl
theorem e45 {R : AV → AH → Prop} {h : AH} (x0 x1 : AV) (H : h.wf → AI Try.prog c45 (RetQ Try.prog [.tmp 4] R) [x0, x1, un, un, un, un, un, un] h) : AC Try.prog 45 [x0, x1] h R :=
  AC_of' (rs := [.tmp 4]) Try.func45 (by kernel_rfl) hd45 Try.ntmps45 rfl H

/-- impl.ThenPermutation -/
def c17 : IC :=
  (.seq
  (.reg [
    ⟨some 4, .assign (.const (.slice none 0 0)), none⟩,
    ⟨some 5, .assign (.const (.bool false)), none⟩])
  (.seq
  (.seq
  (.reg [
    ⟨some 6, .move (.tmp 0), none⟩,
    ⟨some 7, .call { callee := .value (.func 20), args := #[.tmp 6], argTypes := #[31] }, none⟩,
    ⟨some 8, .unOp .not 4 (.tmp 7), none⟩,
    ⟨some 9, .move (.tmp 8), none⟩,
    ⟨some 10, .move (.tmp 1), some (9, false)⟩,
    ⟨some 11, .call { callee := .value (.func 20), args := #[.tmp 10], argTypes := #[31] }, some (9, false)⟩,
    ⟨some 12, .unOp .not 4 (.tmp 11), some (9, false)⟩,
    ⟨some 13, .pick (.tmp 9) (.const (.bool true)) (.tmp 12), none⟩,
    ⟨some 14, .move (.tmp 13), none⟩,
    ⟨some 15, .move (.tmp 0), some (14, false)⟩,
    ⟨some 16, .call { callee := .builtin .len, args := #[.tmp 15], argTypes := #[31] }, some (14, false)⟩,
    ⟨some 17, .move (.tmp 1), some (14, false)⟩,
    ⟨some 18, .call { callee := .builtin .len, args := #[.tmp 17], argTypes := #[31] }, some (14, false)⟩,
    ⟨some 19, .binOp .neq 3 (.tmp 16) (.tmp 18) 3, some (14, false)⟩,
    ⟨some 20, .pick (.tmp 14) (.const (.bool true)) (.tmp 19), none⟩])
  (.cond (.tmp 20)
    (.seq
    (.reg [
      ⟨some 4, .assign (.const (.slice none 0 0)), none⟩,
      ⟨some 5, .assign (.const (.bool false)), none⟩])
    .ret)
    .skip))
  (.seq
  (.reg [
    ⟨some 21, .move (.tmp 0), none⟩,
    ⟨some 22, .move (.tmp 1), none⟩,
    ⟨some 23, .call { callee := .value (.func 45), args := #[.tmp 21, .tmp 22], argTypes := #[31, 31] }, none⟩,
    ⟨some 4, .assign (.tmp 23), none⟩,
    ⟨some 5, .assign (.const (.bool true)), none⟩])
  .ret)))
theorem hd17 : Try.f17.body.map dec = some c17 := by kernel_rfl
theorem e17 {R : AV → AH → Prop} {h : AH} (x0 x1 : AV) (H : h.wf → AI Try.prog c17 (RetQ Try.prog [.tmp 4, .tmp 5] R) [x0, x1, un, un, un, un, un, un, un, un, un, un, un, un, un, un, un, un, un, un, un, un, un, un] h) : AC Try.prog 17 [x0, x1] h R :=
  AC_of' (rs := [.tmp 4, .tmp 5]) Try.func17 (by kernel_rfl) hd17 Try.ntmps17 rfl H

/-- spec.l1In -/
def c76 : IC :=
  (.seq
  (.reg [
    ⟨some 6, .assign (.const (.bool false)), none⟩])
  (.seq
  (.reg [
    ⟨some 7, .move (.tmp 0), none⟩,
    ⟨some 8, .move (.tmp 1), none⟩,
    ⟨some 9, .binOp .geq 3 (.tmp 7) (.tmp 8) 3, none⟩,
    ⟨some 10, .move (.tmp 9), none⟩,
    ⟨some 11, .move (.tmp 0), some (10, true)⟩,
    ⟨some 12, .move (.tmp 2), some (10, true)⟩,
    ⟨some 13, .binOp .leq 3 (.tmp 11) (.tmp 12) 3, some (10, true)⟩,
    ⟨some 14, .pick (.tmp 10) (.tmp 13) (.const (.bool false)), none⟩,
    ⟨some 6, .assign (.tmp 14), none⟩])
  .ret))
theorem hd76 : Try.f76.body.map dec = some c76 := by kernel_rfl
theorem e76 {R : AV → AH → Prop} {h : AH} (x0 x1 x2 : AV) (H : h.wf → AI Try.prog c76 (RetQ Try.prog [.tmp 6] R) [x0, x1, x2, un, un, un, un, un, un, un, un, un, un, un, un] h) : AC Try.prog 76 [x0, x1, x2] h R :=
  AC_of' (rs := [.tmp 6]) Try.func76 (by kernel_rfl) hd76 Try.ntmps76 rfl H

/-- spec.l1Has -/
def c86 : IC :=
  (.seq
  (.reg [
    ⟨some 4, .assign (.const (.bool false)), none⟩])
  (.seq
  (.seq
  (.reg [
    ⟨some 7, .move (.tmp 0), none⟩,
    ⟨some 8, .call { callee := .builtin .len, args := #[.tmp 7], argTypes := #[31] }, none⟩,
    ⟨some 9, .move (.const (.int .i64 0)), none⟩])
  (.block 0
  (.loop
    (.seq
    (.reg [
      ⟨some 10, .binOp .lss 3 (.tmp 9) (.tmp 8) 3, none⟩])
    (.seq
    (.cond (.tmp 10)
      .skip
      (.exit 0))
    (.seq
    (.block 1
    (.seq
    (.reg [
      ⟨some 11, .indexAddr 31 (.tmp 7) (.tmp 9), none⟩,
      ⟨some 12, .load 3 (.tmp 11), none⟩,
      ⟨some 6, .assign (.tmp 12), none⟩])
    (.seq
    (.reg [
      ⟨some 13, .move (.tmp 6), none⟩,
      ⟨some 14, .move (.tmp 1), none⟩,
      ⟨some 15, .binOp .eql 3 (.tmp 13) (.tmp 14) 3, none⟩])
    (.cond (.tmp 15)
      (.seq
      (.reg [
        ⟨some 4, .assign (.const (.bool true)), none⟩])
      .ret)
      .skip))))
    (.reg [
      ⟨some 16, .binOp .add 3 (.tmp 9) (.const (.int .i64 1)) 3, none⟩,
      ⟨some 9, .move (.tmp 16), none⟩])))))))
  (.seq
  (.reg [
    ⟨some 4, .assign (.const (.bool false)), none⟩])
  .ret)))
theorem hd86 : Try.f86.body.map dec = some c86 := by kernel_rfl
theorem e86 {R : AV → AH → Prop} {h : AH} (x0 x1 : AV) (H : h.wf → AI Try.prog c86 (RetQ Try.prog [.tmp 4] R) [x0, x1, un, un, un, un, un, un, un, un, un, un, un, un, un, un, un] h) : AC Try.prog 86 [x0, x1] h R :=
  AC_of' (rs := [.tmp 4]) Try.func86 (by kernel_rfl) hd86 Try.ntmps86 rfl H

/-- spec.moPermutation -/
def c67 : IC :=
  (.seq
  (.reg [
    ⟨some 2, .assign (.const (.bool false)), none⟩])
  (.seq
  (.seq
  (.reg [
    ⟨some 5, .move (.tmp 0), none⟩,
    ⟨some 6, .call { callee := .builtin .len, args := #[.tmp 5], argTypes := #[31] }, none⟩,
    ⟨some 7, .move (.const (.int .i64 0)), none⟩])
  (.block 0
  (.loop
    (.seq
    (.reg [
      ⟨some 8, .binOp .lss 3 (.tmp 7) (.tmp 6) 3, none⟩])
    (.seq
    (.cond (.tmp 8)
      .skip
      (.exit 0))
    (.seq
    (.block 1
    (.seq
    (.reg [
      ⟨some 9, .move (.tmp 7), none⟩,
      ⟨some 10, .indexAddr 31 (.tmp 5) (.tmp 7), none⟩,
      ⟨some 11, .load 3 (.tmp 10), none⟩,
      ⟨some 3, .assign (.tmp 9), none⟩,
      ⟨some 4, .assign (.tmp 11), none⟩])
    (.seq
    (.reg [
      ⟨some 12, .move (.tmp 4), none⟩,
      ⟨some 13, .move (.tmp 0), none⟩,
      ⟨some 14, .call { callee := .builtin .len, args := #[.tmp 13], argTypes := #[31] }, none⟩,
      ⟨some 15, .binOp .sub 3 (.tmp 14) (.const (.int .i64 1)) 3, none⟩,
      ⟨some 16, .call { callee := .value (.func 76), args := #[.tmp 12, .const (.int .i64 0), .tmp 15], argTypes := #[3, 3, 3] }, none⟩,
      ⟨some 17, .unOp .not 4 (.tmp 16), none⟩,
      ⟨some 18, .move (.tmp 17), none⟩,
      ⟨some 19, .move (.tmp 0), some (18, false)⟩,
      ⟨some 20, .move (.tmp 3), some (18, false)⟩,
      ⟨some 21, .slice 31 (.tmp 19) none (some (.tmp 20)) none, some (18, false)⟩,
      ⟨some 22, .move (.tmp 4), some (18, false)⟩,
      ⟨some 23, .call { callee := .value (.func 86), args := #[.tmp 21, .tmp 22], argTypes := #[31, 3] }, some (18, false)⟩,
      ⟨some 24, .pick (.tmp 18) (.const (.bool true)) (.tmp 23), none⟩])
    (.cond (.tmp 24)
      (.seq
      (.reg [
        ⟨some 2, .assign (.const (.bool false)), none⟩])
      .ret)
      .skip))))
    (.reg [
      ⟨some 25, .binOp .add 3 (.tmp 7) (.const (.int .i64 1)) 3, none⟩,
      ⟨some 7, .move (.tmp 25), none⟩])))))))
  (.seq
  (.reg [
    ⟨some 26, .move (.tmp 0), none⟩,
    ⟨some 27, .call { callee := .builtin .len, args := #[.tmp 26], argTypes := #[31] }, none⟩,
    ⟨some 28, .call { callee := .value (.func 76), args := #[.tmp 27, .const (.int .i64 1), .const (.int .i64 8)], argTypes := #[3, 3, 3] }, none⟩,
    ⟨some 2, .assign (.tmp 28), none⟩])
  .ret)))
theorem hd67 : Try.f67.body.map dec = some c67 := by kernel_rfl
theorem e67 {R : AV → AH → Prop} {h : AH} (x0 : AV) (H : h.wf → AI Try.prog c67 (RetQ Try.prog [.tmp 2] R) [x0, un, un, un, un, un, un, un, un, un, un, un, un, un, un, un, un, un, un, un, un, un, un, un, un, un, un, un, un] h) : AC Try.prog 67 [x0] h R :=
  AC_of' (rs := [.tmp 2]) Try.func67 (by kernel_rfl) hd67 Try.ntmps67 rfl H

/-- spec.IsPermutation -/
def c34 : IC :=
  (.seq
  (.reg [
    ⟨some 2, .assign (.const (.bool false)), none⟩])
  (.seq
  (.reg [
    ⟨some 3, .move (.tmp 0), none⟩,
    ⟨some 4, .call { callee := .builtin .len, args := #[.tmp 3], argTypes := #[31] }, none⟩,
    ⟨some 5, .binOp .leq 3 (.tmp 4) (.const (.int .i64 8)) 3, none⟩,
    ⟨some 6, .move (.tmp 5), none⟩,
    ⟨some 7, .move (.tmp 0), some (6, true)⟩,
    ⟨some 8, .call { callee := .value (.func 67), args := #[.tmp 7], argTypes := #[31] }, some (6, true)⟩,
    ⟨some 9, .pick (.tmp 6) (.tmp 8) (.const (.bool false)), none⟩,
    ⟨some 2, .assign (.tmp 9), none⟩])
  .ret))
theorem hd34 : Try.f34.body.map dec = some c34 := by kernel_rfl
theorem e34 {R : AV → AH → Prop} {h : AH} (x0 : AV) (H : h.wf → AI Try.prog c34 (RetQ Try.prog [.tmp 2] R) [x0, un, un, un, un, un, un, un, un, un] h) : AC Try.prog 34 [x0] h R :=
  AC_of' (rs := [.tmp 2]) Try.func34 (by kernel_rfl) hd34 Try.ntmps34 rfl H

/-- spec.moPick -/
def c68 : IC :=
  (.seq
  (.reg [
    ⟨some 4, .assign (.const (.slice none 0 0)), none⟩])
  (.seq
  (.reg [
    ⟨some 5, .assign (.const (.slice none 0 0)), none⟩])
  (.seq
  (.seq
  (.reg [
    ⟨some 8, .move (.tmp 1), none⟩,
    ⟨some 9, .call { callee := .builtin .len, args := #[.tmp 8], argTypes := #[31] }, none⟩,
    ⟨some 10, .move (.const (.int .i64 0)), none⟩])
  (.block 0
  (.loop
    (.seq
    (.reg [
      ⟨some 11, .binOp .lss 3 (.tmp 10) (.tmp 9) 3, none⟩])
    (.seq
    (.cond (.tmp 11)
      .skip
      (.exit 0))
    (.seq
    (.block 1
    (.seq
    (.reg [
      ⟨some 12, .indexAddr 31 (.tmp 8) (.tmp 10), none⟩,
      ⟨some 13, .load 3 (.tmp 12), none⟩,
      ⟨some 7, .assign (.tmp 13), none⟩])
    (.reg [
      ⟨some 14, .move (.tmp 5), none⟩,
      ⟨some 15, .move (.tmp 0), none⟩,
      ⟨some 16, .move (.tmp 7), none⟩,
      ⟨some 17, .indexAddr 31 (.tmp 15) (.tmp 16), none⟩,
      ⟨some 18, .load 3 (.tmp 17), none⟩,
      ⟨some 19, .buildSlice 31 1 #[(0, .tmp 18)], none⟩,
      ⟨some 20, .call { callee := .builtin .append, args := #[.tmp 14, .tmp 19], argTypes := #[31, 31] }, none⟩,
      ⟨some 5, .assign (.tmp 20), none⟩])))
    (.reg [
      ⟨some 21, .binOp .add 3 (.tmp 10) (.const (.int .i64 1)) 3, none⟩,
      ⟨some 10, .move (.tmp 21), none⟩])))))))
  (.seq
  (.reg [
    ⟨some 22, .move (.tmp 5), none⟩,
    ⟨some 4, .assign (.tmp 22), none⟩])
  .ret))))
theorem hd68 : Try.f68.body.map dec = some c68 := by kernel_rfl
theorem e68 {R : AV → AH → Prop} {h : AH} (x0 x1 : AV) (H : h.wf → AI Try.prog c68 (RetQ Try.prog [.tmp 4] R) [x0, x1, un, un, un, un, un, un, un, un, un, un, un, un, un, un, un, un, un, un, un, un, un] h) : AC Try.prog 68 [x0, x1] h R :=
  AC_of' (rs := [.tmp 4]) Try.func68 (by kernel_rfl) hd68 Try.ntmps68 rfl H

/-- spec.moThen -/
def c42 : IC :=
  (.seq
  (.reg [
    ⟨some 4, .assign (.const (.slice none 0 0)), none⟩])
  (.seq
  (.reg [
    ⟨some 5, .move (.tmp 1), none⟩,
    ⟨some 6, .move (.tmp 0), none⟩,
    ⟨some 7, .call { callee := .value (.func 68), args := #[.tmp 5, .tmp 6], argTypes := #[31, 31] }, none⟩,
    ⟨some 4, .assign (.tmp 7), none⟩])
  .ret))
theorem hd42 : Try.f42.body.map dec = some c42 := by kernel_rfl
theorem e42 {R : AV → AH → Prop} {h : AH} (x0 x1 : AV) (H : h.wf → AI Try.prog c42 (RetQ Try.prog [.tmp 4] R) [x0, x1, un, un, un, un, un, un] h) : AC Try.prog 42 [x0, x1] h R :=
  AC_of' (rs := [.tmp 4]) Try.func42 (by kernel_rfl) hd42 Try.ntmps42 rfl H

/-- spec.ThenPermutation -/
def c18 : IC :=
  (.seq
  (.reg [
    ⟨some 4, .assign (.const (.slice none 0 0)), none⟩,
    ⟨some 5, .assign (.const (.bool false)), none⟩])
  (.seq
  (.seq
  (.reg [
    ⟨some 6, .move (.tmp 0), none⟩,
    ⟨some 7, .call { callee := .value (.func 34), args := #[.tmp 6], argTypes := #[31] }, none⟩,
    ⟨some 8, .unOp .not 4 (.tmp 7), none⟩,
    ⟨some 9, .move (.tmp 8), none⟩,
    ⟨some 10, .move (.tmp 1), some (9, false)⟩,
    ⟨some 11, .call { callee := .value (.func 34), args := #[.tmp 10], argTypes := #[31] }, some (9, false)⟩,
    ⟨some 12, .unOp .not 4 (.tmp 11), some (9, false)⟩,
    ⟨some 13, .pick (.tmp 9) (.const (.bool true)) (.tmp 12), none⟩,
    ⟨some 14, .move (.tmp 13), none⟩,
    ⟨some 15, .move (.tmp 0), some (14, false)⟩,
    ⟨some 16, .call { callee := .builtin .len, args := #[.tmp 15], argTypes := #[31] }, some (14, false)⟩,
    ⟨some 17, .move (.tmp 1), some (14, false)⟩,
    ⟨some 18, .call { callee := .builtin .len, args := #[.tmp 17], argTypes := #[31] }, some (14, false)⟩,
    ⟨some 19, .binOp .neq 3 (.tmp 16) (.tmp 18) 3, some (14, false)⟩,
    ⟨some 20, .pick (.tmp 14) (.const (.bool true)) (.tmp 19), none⟩])
  (.cond (.tmp 20)
    (.seq
    (.reg [
      ⟨some 4, .assign (.const (.slice none 0 0)), none⟩,
      ⟨some 5, .assign (.const (.bool false)), none⟩])
    .ret)
    .skip))
  (.seq
  (.reg [
    ⟨some 21, .move (.tmp 0), none⟩,
    ⟨some 22, .move (.tmp 1), none⟩,
    ⟨some 23, .call { callee := .value (.func 42), args := #[.tmp 21, .tmp 22], argTypes := #[31, 31] }, none⟩,
    ⟨some 4, .assign (.tmp 23), none⟩,
    ⟨some 5, .assign (.const (.bool true)), none⟩])
  .ret)))
theorem hd18 : Try.f18.body.map dec = some c18 := by kernel_rfl
theorem e18 {R : AV → AH → Prop} {h : AH} (x0 x1 : AV) (H : h.wf → AI Try.prog c18 (RetQ Try.prog [.tmp 4, .tmp 5] R) [x0, x1, un, un, un, un, un, un, un, un, un, un, un, un, un, un, un, un, un, un, un, un, un, un] h) : AC Try.prog 18 [x0, x1] h R :=
  AC_of' (rs := [.tmp 4, .tmp 5]) Try.func18 (by kernel_rfl) hd18 Try.ntmps18 rfl H

noncomputable def rg19_0 : Array Oper := rawAt Try.f19 0
/-- laws.rSame -/
noncomputable def c19 : IC :=
  (.seq
  (.reg [
    ⟨some 4, .assign (.const (.bool false)), none⟩])
  (.seq
  (.seq
  (.reg [
    ⟨some 6, .move (.tmp 0), none⟩,
    ⟨some 7, .call { callee := .builtin .len, args := #[.tmp 6], argTypes := #[31] }, none⟩,
    ⟨some 8, .move (.tmp 1), none⟩,
    ⟨some 9, .call { callee := .builtin .len, args := #[.tmp 8], argTypes := #[31] }, none⟩,
    ⟨some 10, .binOp .neq 3 (.tmp 7) (.tmp 9) 3, none⟩])
  (.cond (.tmp 10)
    (.seq
    (.reg [
      ⟨some 4, .assign (.const (.bool false)), none⟩])
    .ret)
    .skip))
  (.seq
  (.seq
  (.reg [
    ⟨some 11, .move (.tmp 0), none⟩,
    ⟨some 12, .call { callee := .builtin .len, args := #[.tmp 11], argTypes := #[31] }, none⟩,
    ⟨some 13, .move (.const (.int .i64 0)), none⟩])
  (.block 0
  (.loop
    (.seq
    (.reg [
      ⟨some 14, .binOp .lss 3 (.tmp 13) (.tmp 12) 3, none⟩])
    (.seq
    (.cond (.tmp 14)
      .skip
      (.exit 0))
    (.seq
    (.block 1
    (.seq
    (.reg [
      ⟨some 15, .move (.tmp 13), none⟩,
      ⟨some 5, .assign (.tmp 15), none⟩])
    (.seq
    (.raw (.region 6 rg19_0 true))
    (.cond (.tmp 24)
      (.seq
      (.reg [
        ⟨some 4, .assign (.const (.bool false)), none⟩])
      .ret)
      .skip))))
    (.reg [
      ⟨some 25, .binOp .add 3 (.tmp 13) (.const (.int .i64 1)) 3, none⟩,
      ⟨some 13, .move (.tmp 25), none⟩])))))))
  (.seq
  (.reg [
    ⟨some 4, .assign (.const (.bool true)), none⟩])
  .ret))))
theorem hd19 : Try.f19.body.map dec = some c19 := by kernel_rfl
theorem e19 {R : AV → AH → Prop} {h : AH} (x0 x1 : AV) (H : h.wf → AI Try.prog c19 (RetQ Try.prog [.tmp 4] R) [x0, x1, un, un, un, un, un, un, un, un, un, un, un, un, un, un, un, un, un, un, un, un, un, un, un, un] h) : AC Try.prog 19 [x0, x1] h R :=
  AC_of' (rs := [.tmp 4]) Try.func19 (by kernel_rfl) hd19 Try.ntmps19 rfl H
theorem dz19_0 {h0 : AH} {L : List It} {Q : Exit → List AV → List It → Prop} {a : List AV} {id : Nat} (H : LX Try.prog ⟨[], []⟩ h0 L L (.c (⟨some 16, .move (.tmp 0), none⟩, .p) <| .c (⟨some 17, .move (.tmp 5), none⟩, .p) <| .c (⟨some 18, .indexAddr 31 (.tmp 16) (.tmp 17), none⟩, .p) <| .c (⟨some 19, .load 3 (.tmp 18), none⟩, .l) <| .c (⟨some 20, .move (.tmp 1), none⟩, .p) <| .c (⟨some 21, .move (.tmp 5), none⟩, .p) <| .c (⟨some 22, .indexAddr 31 (.tmp 20) (.tmp 21), none⟩, .p) <| .c (⟨some 23, .load 3 (.tmp 22), none⟩, .l) <| .c (⟨some 24, .binOp .neq 3 (.tmp 19) (.tmp 23) 3, none⟩, .p) <| .n) Q a) : LI Try.prog h0 L (.raw (.region id rg19_0 true)) Q a :=
  LI_draw (.c (0, .p) <| .c (1, .p) <| .c (2, .p) <| .c (3, .l) <| .c (4, .p) <| .c (5, .p) <| .c (6, .p) <| .c (7, .l) <| .c (8, .p) <| .n) [] (by kernel_rfl) (by kernel_rfl) (by kernel_rfl) H
theorem dr19_0 (m : Nat) {Q : Exit → List AV → AH → Prop} {a : List AV} {h : AH} {id : Nat} (H : AX Try.prog m h [(⟨some 16, .move (.tmp 0), none⟩, true),
  (⟨some 17, .move (.tmp 5), none⟩, true),
  (⟨some 18, .indexAddr 31 (.tmp 16) (.tmp 17), none⟩, true),
  (⟨some 19, .load 3 (.tmp 18), none⟩, true),
  (⟨some 20, .move (.tmp 1), none⟩, true),
  (⟨some 21, .move (.tmp 5), none⟩, true),
  (⟨some 22, .indexAddr 31 (.tmp 20) (.tmp 21), none⟩, true),
  (⟨some 23, .load 3 (.tmp 22), none⟩, true),
  (⟨some 24, .binOp .neq 3 (.tmp 19) (.tmp 23) 3, none⟩, true)] (fun a' h' => Q .normal a' h') a h) : AI Try.prog (.raw (.region id rg19_0 true)) Q a h :=
  AI_draw [(0, true), (1, true), (2, true), (3, true), (4, true), (5, true), (6, true), (7, true), (8, true)] m (by kernel_rfl) (by kernel_rfl) (by kernel_rfl) H

/-- (*spec.l1Cur).exponent -/
def c51 : IC :=
  (.seq
  (.reg [
    ⟨some 2, .assign (.const (.int .i64 0)), none⟩])
  (.seq
  (.seq
  (.reg [
    ⟨some 3, .move (.tmp 0), none⟩,
    ⟨some 4, .call { callee := .value (.func 47), args := #[.tmp 3, .const (.int .i64 12)], argTypes := #[60, 3] }, none⟩])
  (.cond (.tmp 4)
    (.seq
    (.reg [
      ⟨some 5, .move (.tmp 0), none⟩,
      ⟨some 6, .buildSlice 31 4 #[(0, .const (.int .i64 (-1))), (1, .const (.int .i64 0)), (2, .const (.int .i64 1000000)), (3, .const (.int .i64 1000001))], none⟩,
      ⟨some 7, .call { callee := .value (.func 72), args := #[.tmp 5, .tmp 6], argTypes := #[60, 31] }, none⟩,
      ⟨some 2, .assign (.tmp 7), none⟩])
    .ret)
    .skip))
  (.seq
  (.reg [
    ⟨some 8, .move (.tmp 0), none⟩,
    ⟨some 9, .move (.tmp 0), none⟩,
    ⟨some 10, .buildSlice 31 3 #[(0, .const (.int .i64 5)), (1, .const (.int .i64 40)), (2, .const (.int .i64 5000))], none⟩,
    ⟨some 11, .call { callee := .value (.func 72), args := #[.tmp 9, .tmp 10], argTypes := #[60, 31] }, none⟩,
    ⟨some 12, .call { callee := .value (.func 73), args := #[.tmp 8, .tmp 11], argTypes := #[60, 3] }, none⟩,
    ⟨some 2, .assign (.tmp 12), none⟩])
  .ret)))
theorem hd51 : Try.f51.body.map dec = some c51 := by kernel_rfl
theorem e51 {R : AV → AH → Prop} {h : AH} (x0 : AV) (H : h.wf → AI Try.prog c51 (RetQ Try.prog [.tmp 2] R) [x0, un, un, un, un, un, un, un, un, un, un, un, un] h) : AC Try.prog 51 [x0] h R :=
  AC_of' (rs := [.tmp 2]) Try.func51 (by kernel_rfl) hd51 Try.ntmps51 rfl H

/-- spec.DrawPermutationPower -/
def c21 : IC :=
  (.seq
  (.reg [
    ⟨some 2, .assign (.const (.slice none 0 0)), none⟩,
    ⟨some 3, .assign (.const (.int .i64 0)), none⟩])
  (.seq
  (.reg [
    ⟨some 5, .move (.tmp 0), none⟩,
    ⟨some 6, .build 63 #[(0, .tmp 5)], none⟩,
    ⟨some 7, .box 63 (.tmp 6), none⟩,
    ⟨some 4, .assign (.tmp 7), none⟩])
  (.seq
  (.reg [
    ⟨some 8, .move (.tmp 4), none⟩,
    ⟨some 9, .move (.tmp 4), none⟩,
    ⟨some 10, .call { callee := .value (.func 46), args := #[.tmp 9], argTypes := #[60] }, none⟩,
    ⟨some 11, .call { callee := .value (.func 48), args := #[.tmp 8, .tmp 10], argTypes := #[60, 3] }, none⟩,
    ⟨some 12, .move (.tmp 4), none⟩,
    ⟨some 13, .call { callee := .value (.func 51), args := #[.tmp 12], argTypes := #[60] }, none⟩,
    ⟨some 2, .assign (.tmp 11), none⟩,
    ⟨some 3, .assign (.tmp 13), none⟩])
  .ret)))
theorem hd21 : Try.f21.body.map dec = some c21 := by kernel_rfl
theorem e21 {R : AV → AH → Prop} {h : AH} (x0 : AV) (H : h.wf → AI Try.prog c21 (RetQ Try.prog [.tmp 2, .tmp 3] R) [x0, un, un, un, un, un, un, un, un, un, un, un, un, un] h) : AC Try.prog 21 [x0] h R :=
  AC_of' (rs := [.tmp 2, .tmp 3]) Try.func21 (by kernel_rfl) hd21 Try.ntmps21 rfl H

/-- impl.exponentOk -/
def c52 : IC :=
  (.seq
  (.reg [
    ⟨some 2, .assign (.const (.bool false)), none⟩])
  (.seq
  (.reg [
    ⟨some 3, .move (.tmp 0), none⟩,
    ⟨some 4, .call { callee := .value (.func 49), args := #[.tmp 3, .const (.int .i64 0), .const (.int .i64 1000000)], argTypes := #[3, 3, 3] }, none⟩,
    ⟨some 2, .assign (.tmp 4), none⟩])
  .ret))
theorem hd52 : Try.f52.body.map dec = some c52 := by kernel_rfl
theorem e52 {R : AV → AH → Prop} {h : AH} (x0 : AV) (H : h.wf → AI Try.prog c52 (RetQ Try.prog [.tmp 2] R) [x0, un, un, un, un] h) : AC Try.prog 52 [x0] h R :=
  AC_of' (rs := [.tmp 2]) Try.func52 (by kernel_rfl) hd52 Try.ntmps52 rfl H

/-- impl.power[[]int] -/
def c53 : IC :=
  (.seq
  (.reg [
    ⟨some 8, .assign (.const (.slice none 0 0)), none⟩])
  (.seq
  (.block 0
  (.loop
    (.seq
    (.seq
    (.reg [
      ⟨some 9, .move (.tmp 2), none⟩,
      ⟨some 10, .binOp .gtr 3 (.tmp 9) (.const (.int .i64 0)) 3, none⟩])
    (.cond (.tmp 10)
      .skip
      (.exit 0)))
    (.seq
    (.block 1
    (.seq
    (.seq
    (.reg [
      ⟨some 13, .move (.tmp 2), none⟩,
      ⟨some 14, .binOp .rem 3 (.tmp 13) (.const (.int .i64 2)) 3, none⟩,
      ⟨some 15, .binOp .eql 3 (.tmp 14) (.const (.int .i64 1)) 3, none⟩])
    (.cond (.tmp 15)
      (.reg [
        ⟨some 16, .move (.tmp 3), none⟩,
        ⟨some 17, .move (.tmp 1), none⟩,
        ⟨some 18, .move (.tmp 0), none⟩,
        ⟨some 19, .call { callee := .value (.tmp 16), args := #[.tmp 17, .tmp 18], argTypes := #[31, 31] }, none⟩,
        ⟨some 1, .assign (.tmp 19), none⟩])
      .skip))
    (.reg [
      ⟨some 20, .move (.tmp 3), none⟩,
      ⟨some 21, .move (.tmp 0), none⟩,
      ⟨some 22, .move (.tmp 0), none⟩,
      ⟨some 23, .call { callee := .value (.tmp 20), args := #[.tmp 21, .tmp 22], argTypes := #[31, 31] }, none⟩,
      ⟨some 0, .assign (.tmp 23), none⟩])))
    (.reg [
      ⟨some 11, .move (.tmp 2), none⟩,
      ⟨some 12, .binOp .quo 3 (.tmp 11) (.const (.int .i64 2)) 3, none⟩,
      ⟨some 2, .assign (.tmp 12), none⟩])))))
  (.seq
  (.reg [
    ⟨some 24, .move (.tmp 1), none⟩,
    ⟨some 8, .assign (.tmp 24), none⟩])
  .ret)))
theorem hd53 : Try.f53.body.map dec = some c53 := by kernel_rfl
theorem e53 {R : AV → AH → Prop} {h : AH} (x0 x1 x2 x3 : AV) (H : h.wf → AI Try.prog c53 (RetQ Try.prog [.tmp 8] R) [x0, x1, x2, x3, un, un, un, un, un, un, un, un, un, un, un, un, un, un, un, un, un, un, un, un, un] h) : AC Try.prog 53 [x0, x1, x2, x3] h R :=
  AC_of' (rs := [.tmp 8]) Try.func53 (by kernel_rfl) hd53 Try.ntmps53 rfl H

/-- impl.PermutationPower -/
def c22 : IC :=
  (.seq
  (.reg [
    ⟨some 4, .assign (.const (.slice none 0 0)), none⟩,
    ⟨some 5, .assign (.const (.bool false)), none⟩])
  (.seq
  (.seq
  (.reg [
    ⟨some 6, .move (.tmp 0), none⟩,
    ⟨some 7, .call { callee := .value (.func 20), args := #[.tmp 6], argTypes := #[31] }, none⟩,
    ⟨some 8, .unOp .not 4 (.tmp 7), none⟩,
    ⟨some 9, .move (.tmp 8), none⟩,
    ⟨some 10, .move (.tmp 1), some (9, false)⟩,
    ⟨some 11, .call { callee := .value (.func 52), args := #[.tmp 10], argTypes := #[3] }, some (9, false)⟩,
    ⟨some 12, .unOp .not 4 (.tmp 11), some (9, false)⟩,
    ⟨some 13, .pick (.tmp 9) (.const (.bool true)) (.tmp 12), none⟩])
  (.cond (.tmp 13)
    (.seq
    (.reg [
      ⟨some 4, .assign (.const (.slice none 0 0)), none⟩,
      ⟨some 5, .assign (.const (.bool false)), none⟩])
    .ret)
    .skip))
  (.seq
  (.reg [
    ⟨some 14, .move (.tmp 0), none⟩,
    ⟨some 15, .move (.tmp 0), none⟩,
    ⟨some 16, .call { callee := .builtin .len, args := #[.tmp 15], argTypes := #[31] }, none⟩,
    ⟨some 17, .call { callee := .value (.func 54), args := #[.tmp 16], argTypes := #[3] }, none⟩,
    ⟨some 18, .move (.tmp 1), none⟩,
    ⟨some 19, .call { callee := .value (.func 53), args := #[.tmp 14, .tmp 17, .tmp 18, .func 45], argTypes := #[31, 31, 3, 59] }, none⟩,
    ⟨some 4, .assign (.tmp 19), none⟩,
    ⟨some 5, .assign (.const (.bool true)), none⟩])
  .ret)))
theorem hd22 : Try.f22.body.map dec = some c22 := by kernel_rfl
theorem e22 {R : AV → AH → Prop} {h : AH} (x0 x1 : AV) (H : h.wf → AI Try.prog c22 (RetQ Try.prog [.tmp 4, .tmp 5] R) [x0, x1, un, un, un, un, un, un, un, un, un, un, un, un, un, un, un, un, un, un] h) : AC Try.prog 22 [x0, x1] h R :=
  AC_of' (rs := [.tmp 4, .tmp 5]) Try.func22 (by kernel_rfl) hd22 Try.ntmps22 rfl H

/-- spec.moExponent -/
def c55 : IC :=
  (.seq
  (.reg [
    ⟨some 2, .assign (.const (.bool false)), none⟩])
  (.seq
  (.reg [
    ⟨some 3, .move (.tmp 0), none⟩,
    ⟨some 4, .call { callee := .value (.func 76), args := #[.tmp 3, .const (.int .i64 0), .const (.int .i64 1000000)], argTypes := #[3, 3, 3] }, none⟩,
    ⟨some 2, .assign (.tmp 4), none⟩])
  .ret))
theorem hd55 : Try.f55.body.map dec = some c55 := by kernel_rfl
theorem e55 {R : AV → AH → Prop} {h : AH} (x0 : AV) (H : h.wf → AI Try.prog c55 (RetQ Try.prog [.tmp 2] R) [x0, un, un, un, un] h) : AC Try.prog 55 [x0] h R :=
  AC_of' (rs := [.tmp 2]) Try.func55 (by kernel_rfl) hd55 Try.ntmps55 rfl H

/-- spec.moRaise -/
def c56 : IC :=
  (.seq
  (.reg [
    ⟨some 4, .assign (.const (.slice none 0 0)), none⟩])
  (.seq
  (.reg [
    ⟨some 5, .assign (.const (.slice none 0 0)), none⟩])
  (.seq
  (.seq
  (.reg [
    ⟨some 7, .move (.tmp 0), none⟩,
    ⟨some 8, .call { callee := .builtin .len, args := #[.tmp 7], argTypes := #[31] }, none⟩,
    ⟨some 9, .move (.const (.int .i64 0)), none⟩])
  (.block 0
  (.loop
    (.seq
    (.reg [
      ⟨some 10, .binOp .lss 3 (.tmp 9) (.tmp 8) 3, none⟩])
    (.seq
    (.cond (.tmp 10)
      .skip
      (.exit 0))
    (.seq
    (.block 1
    (.seq
    (.reg [
      ⟨some 11, .move (.tmp 9), none⟩,
      ⟨some 6, .assign (.tmp 11), none⟩])
    (.reg [
      ⟨some 12, .move (.tmp 5), none⟩,
      ⟨some 13, .move (.tmp 6), none⟩,
      ⟨some 14, .buildSlice 31 1 #[(0, .tmp 13)], none⟩,
      ⟨some 15, .call { callee := .builtin .append, args := #[.tmp 12, .tmp 14], argTypes := #[31, 31] }, none⟩,
      ⟨some 5, .assign (.tmp 15), none⟩])))
    (.reg [
      ⟨some 16, .binOp .add 3 (.tmp 9) (.const (.int .i64 1)) 3, none⟩,
      ⟨some 9, .move (.tmp 16), none⟩])))))))
  (.seq
  (.block 2
  (.loop
    (.seq
    (.seq
    (.reg [
      ⟨some 17, .move (.tmp 1), none⟩,
      ⟨some 18, .binOp .gtr 3 (.tmp 17) (.const (.int .i64 0)) 3, none⟩])
    (.cond (.tmp 18)
      .skip
      (.exit 2)))
    (.seq
    (.block 3
    (.seq
    (.seq
    (.reg [
      ⟨some 21, .move (.tmp 1), none⟩,
      ⟨some 22, .binOp .rem 3 (.tmp 21) (.const (.int .i64 2)) 3, none⟩,
      ⟨some 23, .binOp .eql 3 (.tmp 22) (.const (.int .i64 1)) 3, none⟩])
    (.cond (.tmp 23)
      (.reg [
        ⟨some 24, .move (.tmp 5), none⟩,
        ⟨some 25, .move (.tmp 0), none⟩,
        ⟨some 26, .call { callee := .value (.func 42), args := #[.tmp 24, .tmp 25], argTypes := #[31, 31] }, none⟩,
        ⟨some 5, .assign (.tmp 26), none⟩])
      .skip))
    (.reg [
      ⟨some 27, .move (.tmp 0), none⟩,
      ⟨some 28, .move (.tmp 0), none⟩,
      ⟨some 29, .call { callee := .value (.func 42), args := #[.tmp 27, .tmp 28], argTypes := #[31, 31] }, none⟩,
      ⟨some 0, .assign (.tmp 29), none⟩])))
    (.reg [
      ⟨some 19, .move (.tmp 1), none⟩,
      ⟨some 20, .binOp .quo 3 (.tmp 19) (.const (.int .i64 2)) 3, none⟩,
      ⟨some 1, .assign (.tmp 20), none⟩])))))
  (.seq
  (.reg [
    ⟨some 30, .move (.tmp 5), none⟩,
    ⟨some 4, .assign (.tmp 30), none⟩])
  .ret)))))
theorem hd56 : Try.f56.body.map dec = some c56 := by kernel_rfl
theorem e56 {R : AV → AH → Prop} {h : AH} (x0 x1 : AV) (H : h.wf → AI Try.prog c56 (RetQ Try.prog [.tmp 4] R) [x0, x1, un, un, un, un, un, un, un, un, un, un, un, un, un, un, un, un, un, un, un, un, un, un, un, un, un, un, un, un, un] h) : AC Try.prog 56 [x0, x1] h R :=
  AC_of' (rs := [.tmp 4]) Try.func56 (by kernel_rfl) hd56 Try.ntmps56 rfl H

/-- spec.PermutationPower -/
def c23 : IC :=
  (.seq
  (.reg [
    ⟨some 4, .assign (.const (.slice none 0 0)), none⟩,
    ⟨some 5, .assign (.const (.bool false)), none⟩])
  (.seq
  (.seq
  (.reg [
    ⟨some 6, .move (.tmp 0), none⟩,
    ⟨some 7, .call { callee := .value (.func 34), args := #[.tmp 6], argTypes := #[31] }, none⟩,
    ⟨some 8, .unOp .not 4 (.tmp 7), none⟩,
    ⟨some 9, .move (.tmp 8), none⟩,
    ⟨some 10, .move (.tmp 1), some (9, false)⟩,
    ⟨some 11, .call { callee := .value (.func 55), args := #[.tmp 10], argTypes := #[3] }, some (9, false)⟩,
    ⟨some 12, .unOp .not 4 (.tmp 11), some (9, false)⟩,
    ⟨some 13, .pick (.tmp 9) (.const (.bool true)) (.tmp 12), none⟩])
  (.cond (.tmp 13)
    (.seq
    (.reg [
      ⟨some 4, .assign (.const (.slice none 0 0)), none⟩,
      ⟨some 5, .assign (.const (.bool false)), none⟩])
    .ret)
    .skip))
  (.seq
  (.reg [
    ⟨some 14, .move (.tmp 0), none⟩,
    ⟨some 15, .move (.tmp 1), none⟩,
    ⟨some 16, .call { callee := .value (.func 56), args := #[.tmp 14, .tmp 15], argTypes := #[31, 3] }, none⟩,
    ⟨some 4, .assign (.tmp 16), none⟩,
    ⟨some 5, .assign (.const (.bool true)), none⟩])
  .ret)))
theorem hd23 : Try.f23.body.map dec = some c23 := by kernel_rfl
theorem e23 {R : AV → AH → Prop} {h : AH} (x0 x1 : AV) (H : h.wf → AI Try.prog c23 (RetQ Try.prog [.tmp 4, .tmp 5] R) [x0, x1, un, un, un, un, un, un, un, un, un, un, un, un, un, un, un] h) : AC Try.prog 23 [x0, x1] h R :=
  AC_of' (rs := [.tmp 4, .tmp 5]) Try.func23 (by kernel_rfl) hd23 Try.ntmps23 rfl H

/-- impl.PermutationOrder -/
def c24 : IC :=
  (.seq
  (.reg [
    ⟨some 2, .assign (.const (.int .i64 0)), none⟩,
    ⟨some 3, .assign (.const (.bool false)), none⟩])
  (.seq
  (.seq
  (.reg [
    ⟨some 6, .move (.tmp 0), none⟩,
    ⟨some 7, .call { callee := .value (.func 20), args := #[.tmp 6], argTypes := #[31] }, none⟩,
    ⟨some 8, .unOp .not 4 (.tmp 7), none⟩])
  (.cond (.tmp 8)
    (.seq
    (.reg [
      ⟨some 2, .assign (.const (.int .i64 0)), none⟩,
      ⟨some 3, .assign (.const (.bool false)), none⟩])
    .ret)
    .skip))
  (.seq
  (.reg [
    ⟨some 4, .assign (.const (.int .i64 1)), none⟩])
  (.seq
  (.seq
  (.reg [
    ⟨some 9, .move (.tmp 0), none⟩,
    ⟨some 5, .assign (.tmp 9), none⟩])
  (.block 0
  (.loop
    (.seq
    (.seq
    (.reg [
      ⟨some 10, .move (.tmp 5), none⟩,
      ⟨some 11, .move (.tmp 0), none⟩,
      ⟨some 12, .call { callee := .builtin .len, args := #[.tmp 11], argTypes := #[31] }, none⟩,
      ⟨some 13, .call { callee := .value (.func 54), args := #[.tmp 12], argTypes := #[3] }, none⟩,
      ⟨some 14, .call { callee := .value (.func 44), args := #[.tmp 10, .tmp 13], argTypes := #[31, 31] }, none⟩,
      ⟨some 15, .unOp .not 4 (.tmp 14), none⟩])
    (.cond (.tmp 15)
      .skip
      (.exit 0)))
    (.seq
    (.block 1
    (.reg [
      ⟨some 19, .move (.tmp 4), none⟩,
      ⟨some 20, .binOp .add 3 (.tmp 19) (.const (.int .i64 1)) 3, none⟩,
      ⟨some 4, .assign (.tmp 20), none⟩]))
    (.reg [
      ⟨some 16, .move (.tmp 5), none⟩,
      ⟨some 17, .move (.tmp 0), none⟩,
      ⟨some 18, .call { callee := .value (.func 45), args := #[.tmp 16, .tmp 17], argTypes := #[31, 31] }, none⟩,
      ⟨some 5, .assign (.tmp 18), none⟩]))))))
  (.seq
  (.reg [
    ⟨some 21, .move (.tmp 4), none⟩,
    ⟨some 2, .assign (.tmp 21), none⟩,
    ⟨some 3, .assign (.const (.bool true)), none⟩])
  .ret)))))
theorem hd24 : Try.f24.body.map dec = some c24 := by kernel_rfl
theorem e24 {R : AV → AH → Prop} {h : AH} (x0 : AV) (H : h.wf → AI Try.prog c24 (RetQ Try.prog [.tmp 2, .tmp 3] R) [x0, un, un, un, un, un, un, un, un, un, un, un, un, un, un, un, un, un, un, un, un, un] h) : AC Try.prog 24 [x0] h R :=
  AC_of' (rs := [.tmp 2, .tmp 3]) Try.func24 (by kernel_rfl) hd24 Try.ntmps24 rfl H

noncomputable def rg41_0 : Array Oper := rawAt Try.f41 0
/-- spec.l1Same -/
noncomputable def c41 : IC :=
  (.seq
  (.reg [
    ⟨some 4, .assign (.const (.bool false)), none⟩])
  (.seq
  (.seq
  (.reg [
    ⟨some 6, .move (.tmp 0), none⟩,
    ⟨some 7, .call { callee := .builtin .len, args := #[.tmp 6], argTypes := #[31] }, none⟩,
    ⟨some 8, .move (.tmp 1), none⟩,
    ⟨some 9, .call { callee := .builtin .len, args := #[.tmp 8], argTypes := #[31] }, none⟩,
    ⟨some 10, .binOp .neq 3 (.tmp 7) (.tmp 9) 3, none⟩])
  (.cond (.tmp 10)
    (.seq
    (.reg [
      ⟨some 4, .assign (.const (.bool false)), none⟩])
    .ret)
    .skip))
  (.seq
  (.seq
  (.reg [
    ⟨some 11, .move (.tmp 0), none⟩,
    ⟨some 12, .call { callee := .builtin .len, args := #[.tmp 11], argTypes := #[31] }, none⟩,
    ⟨some 13, .move (.const (.int .i64 0)), none⟩])
  (.block 0
  (.loop
    (.seq
    (.reg [
      ⟨some 14, .binOp .lss 3 (.tmp 13) (.tmp 12) 3, none⟩])
    (.seq
    (.cond (.tmp 14)
      .skip
      (.exit 0))
    (.seq
    (.block 1
    (.seq
    (.reg [
      ⟨some 15, .move (.tmp 13), none⟩,
      ⟨some 5, .assign (.tmp 15), none⟩])
    (.seq
    (.raw (.region 6 rg41_0 true))
    (.cond (.tmp 24)
      (.seq
      (.reg [
        ⟨some 4, .assign (.const (.bool false)), none⟩])
      .ret)
      .skip))))
    (.reg [
      ⟨some 25, .binOp .add 3 (.tmp 13) (.const (.int .i64 1)) 3, none⟩,
      ⟨some 13, .move (.tmp 25), none⟩])))))))
  (.seq
  (.reg [
    ⟨some 4, .assign (.const (.bool true)), none⟩])
  .ret))))
theorem hd41 : Try.f41.body.map dec = some c41 := by kernel_rfl
theorem e41 {R : AV → AH → Prop} {h : AH} (x0 x1 : AV) (H : h.wf → AI Try.prog c41 (RetQ Try.prog [.tmp 4] R) [x0, x1, un, un, un, un, un, un, un, un, un, un, un, un, un, un, un, un, un, un, un, un, un, un, un, un] h) : AC Try.prog 41 [x0, x1] h R :=
  AC_of' (rs := [.tmp 4]) Try.func41 (by kernel_rfl) hd41 Try.ntmps41 rfl H
theorem dz41_0 {h0 : AH} {L : List It} {Q : Exit → List AV → List It → Prop} {a : List AV} {id : Nat} (H : LX Try.prog ⟨[], []⟩ h0 L L (.c (⟨some 16, .move (.tmp 0), none⟩, .p) <| .c (⟨some 17, .move (.tmp 5), none⟩, .p) <| .c (⟨some 18, .indexAddr 31 (.tmp 16) (.tmp 17), none⟩, .p) <| .c (⟨some 19, .load 3 (.tmp 18), none⟩, .l) <| .c (⟨some 20, .move (.tmp 1), none⟩, .p) <| .c (⟨some 21, .move (.tmp 5), none⟩, .p) <| .c (⟨some 22, .indexAddr 31 (.tmp 20) (.tmp 21), none⟩, .p) <| .c (⟨some 23, .load 3 (.tmp 22), none⟩, .l) <| .c (⟨some 24, .binOp .neq 3 (.tmp 19) (.tmp 23) 3, none⟩, .p) <| .n) Q a) : LI Try.prog h0 L (.raw (.region id rg41_0 true)) Q a :=
  LI_draw (.c (0, .p) <| .c (1, .p) <| .c (2, .p) <| .c (3, .l) <| .c (4, .p) <| .c (5, .p) <| .c (6, .p) <| .c (7, .l) <| .c (8, .p) <| .n) [] (by kernel_rfl) (by kernel_rfl) (by kernel_rfl) H
theorem dr41_0 (m : Nat) {Q : Exit → List AV → AH → Prop} {a : List AV} {h : AH} {id : Nat} (H : AX Try.prog m h [(⟨some 16, .move (.tmp 0), none⟩, true),
  (⟨some 17, .move (.tmp 5), none⟩, true),
  (⟨some 18, .indexAddr 31 (.tmp 16) (.tmp 17), none⟩, true),
  (⟨some 19, .load 3 (.tmp 18), none⟩, true),
  (⟨some 20, .move (.tmp 1), none⟩, true),
  (⟨some 21, .move (.tmp 5), none⟩, true),
  (⟨some 22, .indexAddr 31 (.tmp 20) (.tmp 21), none⟩, true),
  (⟨some 23, .load 3 (.tmp 22), none⟩, true),
  (⟨some 24, .binOp .neq 3 (.tmp 19) (.tmp 23) 3, none⟩, true)] (fun a' h' => Q .normal a' h') a h) : AI Try.prog (.raw (.region id rg41_0 true)) Q a h :=
  AI_draw [(0, true), (1, true), (2, true), (3, true), (4, true), (5, true), (6, true), (7, true), (8, true)] m (by kernel_rfl) (by kernel_rfl) (by kernel_rfl) H

/-- spec.PermutationOrder -/
def c25 : IC :=
  (.seq
  (.reg [
    ⟨some 2, .assign (.const (.int .i64 0)), none⟩,
    ⟨some 3, .assign (.const (.bool false)), none⟩])
  (.seq
  (.seq
  (.reg [
    ⟨some 5, .move (.tmp 0), none⟩,
    ⟨some 6, .call { callee := .value (.func 34), args := #[.tmp 5], argTypes := #[31] }, none⟩,
    ⟨some 7, .unOp .not 4 (.tmp 6), none⟩])
  (.cond (.tmp 7)
    (.seq
    (.reg [
      ⟨some 2, .assign (.const (.int .i64 0)), none⟩,
      ⟨some 3, .assign (.const (.bool false)), none⟩])
    .ret)
    .skip))
  (.seq
  (.reg [
    ⟨some 4, .assign (.const (.int .i64 1)), none⟩])
  (.seq
  (.block 0
  (.loop
    (.seq
    (.seq
    (.reg [
      ⟨some 8, .move (.tmp 0), none⟩,
      ⟨some 9, .move (.tmp 4), none⟩,
      ⟨some 10, .call { callee := .value (.func 56), args := #[.tmp 8, .tmp 9], argTypes := #[31, 3] }, none⟩,
      ⟨some 11, .move (.tmp 0), none⟩,
      ⟨some 12, .call { callee := .value (.func 56), args := #[.tmp 11, .const (.int .i64 0)], argTypes := #[31, 3] }, none⟩,
      ⟨some 13, .call { callee := .value (.func 41), args := #[.tmp 10, .tmp 12], argTypes := #[31, 31] }, none⟩,
      ⟨some 14, .unOp .not 4 (.tmp 13), none⟩])
    (.cond (.tmp 14)
      .skip
      (.exit 0)))
    (.block 1
    (.reg [
      ⟨some 15, .move (.tmp 4), none⟩,
      ⟨some 16, .binOp .add 3 (.tmp 15) (.const (.int .i64 1)) 3, none⟩,
      ⟨some 4, .assign (.tmp 16), none⟩])))))
  (.seq
  (.reg [
    ⟨some 17, .move (.tmp 4), none⟩,
    ⟨some 2, .assign (.tmp 17), none⟩,
    ⟨some 3, .assign (.const (.bool true)), none⟩])
  .ret)))))
theorem hd25 : Try.f25.body.map dec = some c25 := by kernel_rfl
theorem e25 {R : AV → AH → Prop} {h : AH} (x0 : AV) (H : h.wf → AI Try.prog c25 (RetQ Try.prog [.tmp 2, .tmp 3] R) [x0, un, un, un, un, un, un, un, un, un, un, un, un, un, un, un, un, un] h) : AC Try.prog 25 [x0] h R :=
  AC_of' (rs := [.tmp 2, .tmp 3]) Try.func25 (by kernel_rfl) hd25 Try.ntmps25 rfl H

noncomputable def rg4_0 : Array Oper := rawAt Try.f4 0
/-- laws.FnPermutations -/
noncomputable def c4 : IC :=
  (.seq
  (.reg [
    ⟨some 4, .assign (.const (.bool false)), none⟩])
  (.seq
  (.seq
  (.reg [
    ⟨some 32, .move (.tmp 0), none⟩,
    ⟨some 33, .move (.tmp 1), none⟩,
    ⟨some 34, .call { callee := .value (.func 15), args := #[.tmp 32, .tmp 33], argTypes := #[29, 29] }, none⟩])
  (.cond (.tmp 34)
    (.seq
    (.reg [
      ⟨some 4, .assign (.const (.bool true)), none⟩])
    .ret)
    .skip))
  (.seq
  (.reg [
    ⟨some 36, .move (.tmp 0), none⟩,
    ⟨some 37, .call { callee := .value (.func 16), args := #[.tmp 36], argTypes := #[29] }, none⟩,
    ⟨some 35, .move (.tmp 37), none⟩,
    ⟨some 38, .extract (.tmp 35) 0, none⟩,
    ⟨some 39, .extract (.tmp 35) 1, none⟩,
    ⟨some 5, .assign (.tmp 38), none⟩,
    ⟨some 6, .assign (.tmp 39), none⟩])
  (.seq
  (.reg [
    ⟨some 41, .move (.tmp 5), none⟩,
    ⟨some 42, .move (.tmp 6), none⟩,
    ⟨some 43, .call { callee := .value (.func 17), args := #[.tmp 41, .tmp 42], argTypes := #[31, 31] }, none⟩,
    ⟨some 40, .move (.tmp 43), none⟩,
    ⟨some 44, .extract (.tmp 40) 0, none⟩,
    ⟨some 45, .extract (.tmp 40) 1, none⟩,
    ⟨some 7, .assign (.tmp 44), none⟩,
    ⟨some 8, .assign (.tmp 45), none⟩])
  (.seq
  (.reg [
    ⟨some 47, .move (.tmp 5), none⟩,
    ⟨some 48, .move (.tmp 6), none⟩,
    ⟨some 49, .call { callee := .value (.func 18), args := #[.tmp 47, .tmp 48], argTypes := #[31, 31] }, none⟩,
    ⟨some 46, .move (.tmp 49), none⟩,
    ⟨some 50, .extract (.tmp 46) 0, none⟩,
    ⟨some 51, .extract (.tmp 46) 1, none⟩,
    ⟨some 9, .assign (.tmp 50), none⟩,
    ⟨some 10, .assign (.tmp 51), none⟩])
  (.seq
  (.seq
  (.reg [
    ⟨some 52, .move (.tmp 8), none⟩,
    ⟨some 53, .move (.tmp 10), none⟩,
    ⟨some 54, .binOp .neq 4 (.tmp 52) (.tmp 53) 4, none⟩,
    ⟨some 55, .move (.tmp 54), none⟩,
    ⟨some 56, .move (.tmp 7), some (55, false)⟩,
    ⟨some 57, .move (.tmp 9), some (55, false)⟩,
    ⟨some 58, .call { callee := .value (.func 19), args := #[.tmp 56, .tmp 57], argTypes := #[31, 31] }, some (55, false)⟩,
    ⟨some 59, .unOp .not 4 (.tmp 58), some (55, false)⟩,
    ⟨some 60, .pick (.tmp 55) (.const (.bool true)) (.tmp 59), none⟩])
  (.cond (.tmp 60)
    (.seq
    (.reg [
      ⟨some 4, .assign (.const (.bool false)), none⟩])
    .ret)
    .skip))
  (.seq
  (.seq
  (.reg [
    ⟨some 61, .move (.tmp 8), none⟩])
  (.cond (.tmp 61)
    (.seq
    (.seq
    (.reg [
      ⟨some 62, .move (.tmp 5), none⟩,
      ⟨some 63, .call { callee := .builtin .len, args := #[.tmp 62], argTypes := #[31] }, none⟩,
      ⟨some 64, .move (.const (.int .i64 0)), none⟩])
    (.block 0
    (.loop
      (.seq
      (.reg [
        ⟨some 65, .binOp .lss 3 (.tmp 64) (.tmp 63) 3, none⟩])
      (.seq
      (.cond (.tmp 65)
        .skip
        (.exit 0))
      (.seq
      (.block 1
      (.seq
      (.reg [
        ⟨some 66, .move (.tmp 64), none⟩,
        ⟨some 11, .assign (.tmp 66), none⟩])
      (.seq
      (.raw (.region 12 rg4_0 true))
      (.cond (.tmp 78)
        (.seq
        (.reg [
          ⟨some 4, .assign (.const (.bool false)), none⟩])
        .ret)
        .skip))))
      (.reg [
        ⟨some 79, .binOp .add 3 (.tmp 64) (.const (.int .i64 1)) 3, none⟩,
        ⟨some 64, .move (.tmp 79), none⟩])))))))
    (.seq
    (.reg [
      ⟨some 80, .move (.tmp 7), none⟩,
      ⟨some 81, .call { callee := .value (.func 20), args := #[.tmp 80], argTypes := #[31] }, none⟩,
      ⟨some 82, .move (.tmp 5), none⟩,
      ⟨some 83, .call { callee := .value (.func 20), args := #[.tmp 82], argTypes := #[31] }, none⟩,
      ⟨some 84, .move (.tmp 7), none⟩,
      ⟨some 85, .call { callee := .builtin .len, args := #[.tmp 84], argTypes := #[31] }, none⟩,
      ⟨some 86, .move (.tmp 5), none⟩,
      ⟨some 87, .call { callee := .builtin .len, args := #[.tmp 86], argTypes := #[31] }, none⟩,
      ⟨some 88, .binOp .eql 3 (.tmp 85) (.tmp 87) 3, none⟩,
      ⟨some 12, .assign (.tmp 81), none⟩,
      ⟨some 13, .assign (.tmp 83), none⟩,
      ⟨some 14, .assign (.tmp 88), none⟩])
    (.seq
    (.reg [
      ⟨some 89, .move (.tmp 12), none⟩,
      ⟨some 90, .unOp .not 4 (.tmp 89), none⟩,
      ⟨some 91, .move (.tmp 90), none⟩,
      ⟨some 92, .move (.tmp 13), some (91, false)⟩,
      ⟨some 93, .unOp .not 4 (.tmp 92), some (91, false)⟩,
      ⟨some 94, .pick (.tmp 91) (.const (.bool true)) (.tmp 93), none⟩,
      ⟨some 95, .move (.tmp 94), none⟩,
      ⟨some 96, .move (.tmp 14), some (95, false)⟩,
      ⟨some 97, .unOp .not 4 (.tmp 96), some (95, false)⟩,
      ⟨some 98, .pick (.tmp 95) (.const (.bool true)) (.tmp 97), none⟩])
    (.cond (.tmp 98)
      (.seq
      (.reg [
        ⟨some 4, .assign (.const (.bool false)), none⟩])
      .ret)
      .skip))))
    .skip))
  (.seq
  (.reg [
    ⟨some 100, .move (.tmp 1), none⟩,
    ⟨some 101, .call { callee := .value (.func 21), args := #[.tmp 100], argTypes := #[29] }, none⟩,
    ⟨some 99, .move (.tmp 101), none⟩,
    ⟨some 102, .extract (.tmp 99) 0, none⟩,
    ⟨some 103, .extract (.tmp 99) 1, none⟩,
    ⟨some 15, .assign (.tmp 102), none⟩,
    ⟨some 16, .assign (.tmp 103), none⟩])
  (.seq
  (.reg [
    ⟨some 105, .move (.tmp 15), none⟩,
    ⟨some 106, .move (.tmp 16), none⟩,
    ⟨some 107, .call { callee := .value (.func 22), args := #[.tmp 105, .tmp 106], argTypes := #[31, 3] }, none⟩,
    ⟨some 104, .move (.tmp 107), none⟩,
    ⟨some 108, .extract (.tmp 104) 0, none⟩,
    ⟨some 109, .extract (.tmp 104) 1, none⟩,
    ⟨some 17, .assign (.tmp 108), none⟩,
    ⟨some 18, .assign (.tmp 109), none⟩])
  (.seq
  (.reg [
    ⟨some 111, .move (.tmp 15), none⟩,
    ⟨some 112, .move (.tmp 16), none⟩,
    ⟨some 113, .call { callee := .value (.func 23), args := #[.tmp 111, .tmp 112], argTypes := #[31, 3] }, none⟩,
    ⟨some 110, .move (.tmp 113), none⟩,
    ⟨some 114, .extract (.tmp 110) 0, none⟩,
    ⟨some 115, .extract (.tmp 110) 1, none⟩,
    ⟨some 19, .assign (.tmp 114), none⟩,
    ⟨some 20, .assign (.tmp 115), none⟩])
  (.seq
  (.reg [
    ⟨some 117, .move (.tmp 15), none⟩,
    ⟨some 118, .call { callee := .value (.func 24), args := #[.tmp 117], argTypes := #[31] }, none⟩,
    ⟨some 116, .move (.tmp 118), none⟩,
    ⟨some 119, .extract (.tmp 116) 0, none⟩,
    ⟨some 120, .extract (.tmp 116) 1, none⟩,
    ⟨some 21, .assign (.tmp 119), none⟩,
    ⟨some 22, .assign (.tmp 120), none⟩])
  (.seq
  (.reg [
    ⟨some 122, .move (.tmp 15), none⟩,
    ⟨some 123, .call { callee := .value (.func 25), args := #[.tmp 122], argTypes := #[31] }, none⟩,
    ⟨some 121, .move (.tmp 123), none⟩,
    ⟨some 124, .extract (.tmp 121) 0, none⟩,
    ⟨some 125, .extract (.tmp 121) 1, none⟩,
    ⟨some 23, .assign (.tmp 124), none⟩,
    ⟨some 24, .assign (.tmp 125), none⟩])
  (.seq
  (.seq
  (.reg [
    ⟨some 126, .move (.tmp 18), none⟩,
    ⟨some 127, .move (.tmp 20), none⟩,
    ⟨some 128, .binOp .neq 4 (.tmp 126) (.tmp 127) 4, none⟩,
    ⟨some 129, .move (.tmp 128), none⟩,
    ⟨some 130, .move (.tmp 17), some (129, false)⟩,
    ⟨some 131, .move (.tmp 19), some (129, false)⟩,
    ⟨some 132, .call { callee := .value (.func 19), args := #[.tmp 130, .tmp 131], argTypes := #[31, 31] }, some (129, false)⟩,
    ⟨some 133, .unOp .not 4 (.tmp 132), some (129, false)⟩,
    ⟨some 134, .pick (.tmp 129) (.const (.bool true)) (.tmp 133), none⟩,
    ⟨some 135, .move (.tmp 134), none⟩,
    ⟨some 136, .move (.tmp 22), some (135, false)⟩,
    ⟨some 137, .move (.tmp 24), some (135, false)⟩,
    ⟨some 138, .binOp .neq 4 (.tmp 136) (.tmp 137) 4, some (135, false)⟩,
    ⟨some 139, .pick (.tmp 135) (.const (.bool true)) (.tmp 138), none⟩,
    ⟨some 140, .move (.tmp 139), none⟩,
    ⟨some 141, .move (.tmp 21), some (140, false)⟩,
    ⟨some 142, .move (.tmp 23), some (140, false)⟩,
    ⟨some 143, .binOp .neq 3 (.tmp 141) (.tmp 142) 3, some (140, false)⟩,
    ⟨some 144, .pick (.tmp 140) (.const (.bool true)) (.tmp 143), none⟩])
  (.cond (.tmp 144)
    (.seq
    (.reg [
      ⟨some 4, .assign (.const (.bool false)), none⟩])
    .ret)
    .skip))
  (.seq
  (.seq
  (.reg [
    ⟨some 145, .move (.tmp 22), none⟩,
    ⟨some 146, .unOp .not 4 (.tmp 145), none⟩])
  (.cond (.tmp 146)
    (.seq
    (.reg [
      ⟨some 4, .assign (.const (.bool true)), none⟩])
    .ret)
    .skip))
  (.seq
  (.reg [
    ⟨some 148, .move (.tmp 15), none⟩,
    ⟨some 149, .call { callee := .value (.func 22), args := #[.tmp 148, .const (.int .i64 0)], argTypes := #[31, 3] }, none⟩,
    ⟨some 147, .move (.tmp 149), none⟩,
    ⟨some 150, .extract (.tmp 147) 0, none⟩,
    ⟨some 151, .extract (.tmp 147) 1, none⟩,
    ⟨some 25, .assign (.tmp 150), none⟩,
    ⟨some 26, .assign (.tmp 151), none⟩])
  (.seq
  (.seq
  (.reg [
    ⟨some 27, .assign (.const (.int .i64 1)), none⟩])
  (.block 2
  (.loop
    (.seq
    (.seq
    (.reg [
      ⟨some 152, .move (.tmp 27), none⟩,
      ⟨some 153, .move (.tmp 21), none⟩,
      ⟨some 154, .binOp .leq 3 (.tmp 152) (.tmp 153) 3, none⟩])
    (.cond (.tmp 154)
      .skip
      (.exit 2)))
    (.seq
    (.block 3
    (.seq
    (.reg [
      ⟨some 158, .move (.tmp 15), none⟩,
      ⟨some 159, .move (.tmp 27), none⟩,
      ⟨some 160, .call { callee := .value (.func 22), args := #[.tmp 158, .tmp 159], argTypes := #[31, 3] }, none⟩,
      ⟨some 157, .move (.tmp 160), none⟩,
      ⟨some 161, .extract (.tmp 157) 0, none⟩,
      ⟨some 162, .extract (.tmp 157) 1, none⟩,
      ⟨some 28, .assign (.tmp 161), none⟩,
      ⟨some 29, .assign (.tmp 162), none⟩])
    (.seq
    (.reg [
      ⟨some 163, .move (.tmp 26), none⟩,
      ⟨some 164, .unOp .not 4 (.tmp 163), none⟩,
      ⟨some 165, .move (.tmp 164), none⟩,
      ⟨some 166, .move (.tmp 29), some (165, false)⟩,
      ⟨some 167, .unOp .not 4 (.tmp 166), some (165, false)⟩,
      ⟨some 168, .pick (.tmp 165) (.const (.bool true)) (.tmp 167), none⟩,
      ⟨some 169, .move (.tmp 168), none⟩,
      ⟨some 170, .move (.tmp 28), some (169, false)⟩,
      ⟨some 171, .move (.tmp 25), some (169, false)⟩,
      ⟨some 172, .call { callee := .value (.func 19), args := #[.tmp 170, .tmp 171], argTypes := #[31, 31] }, some (169, false)⟩,
      ⟨some 173, .move (.tmp 27), some (169, false)⟩,
      ⟨some 174, .move (.tmp 21), some (169, false)⟩,
      ⟨some 175, .binOp .eql 3 (.tmp 173) (.tmp 174) 3, some (169, false)⟩,
      ⟨some 176, .binOp .neq 4 (.tmp 172) (.tmp 175) 4, some (169, false)⟩,
      ⟨some 177, .pick (.tmp 169) (.const (.bool true)) (.tmp 176), none⟩])
    (.cond (.tmp 177)
      (.seq
      (.reg [
        ⟨some 4, .assign (.const (.bool false)), none⟩])
      .ret)
      .skip))))
    (.reg [
      ⟨some 155, .move (.tmp 27), none⟩,
      ⟨some 156, .binOp .add 3 (.tmp 155) (.const (.int .i64 1)) 3, none⟩,
      ⟨some 27, .assign (.tmp 156), none⟩]))))))
  (.seq
  (.seq
  (.reg [
    ⟨some 178, .move (.tmp 18), none⟩])
  (.cond (.tmp 178)
    (.seq
    (.reg [
      ⟨some 180, .move (.tmp 15), none⟩,
      ⟨some 181, .move (.tmp 16), none⟩,
      ⟨some 182, .move (.tmp 21), none⟩,
      ⟨some 183, .binOp .rem 3 (.tmp 181) (.tmp 182) 3, none⟩,
      ⟨some 184, .call { callee := .value (.func 22), args := #[.tmp 180, .tmp 183], argTypes := #[31, 3] }, none⟩,
      ⟨some 179, .move (.tmp 184), none⟩,
      ⟨some 185, .extract (.tmp 179) 0, none⟩,
      ⟨some 186, .extract (.tmp 179) 1, none⟩,
      ⟨some 30, .assign (.tmp 185), none⟩,
      ⟨some 31, .assign (.tmp 186), none⟩])
    (.seq
    (.reg [
      ⟨some 187, .move (.tmp 31), none⟩,
      ⟨some 188, .move (.tmp 187), none⟩,
      ⟨some 189, .move (.tmp 30), some (188, true)⟩,
      ⟨some 190, .move (.tmp 17), some (188, true)⟩,
      ⟨some 191, .call { callee := .value (.func 19), args := #[.tmp 189, .tmp 190], argTypes := #[31, 31] }, some (188, true)⟩,
      ⟨some 192, .pick (.tmp 188) (.tmp 191) (.const (.bool false)), none⟩,
      ⟨some 4, .assign (.tmp 192), none⟩])
    .ret))
    .skip))
  (.seq
  (.reg [
    ⟨some 4, .assign (.const (.bool true)), none⟩])
  .ret))))))))))))))))))
theorem hd4 : Try.f4.body.map dec = some c4 := by kernel_rfl
theorem e4 {R : AV → AH → Prop} {h : AH} (x0 x1 : AV) (H : h.wf → AI Try.prog c4 (RetQ Try.prog [.tmp 4] R) [x0, x1, un, un, un, un, un, un, un, un, un, un, un, un, un, un, un, un, un, un, un, un, un, un, un, un, un, un, un, un, un, un, un, un, un, un, un, un, un, un, un, un, un, un, un, un, un, un, un, un, un, un, un, un, un, un, un, un, un, un, un, un, un, un, un, un, un, un, un, un, un, un, un, un, un, un, un, un, un, un, un, un, un, un, un, un, un, un, un, un, un, un, un, un, un, un, un, un, un, un, un, un, un, un, un, un, un, un, un, un, un, un, un, un, un, un, un, un, un, un, un, un, un, un, un, un, un, un, un, un, un, un, un, un, un, un, un, un, un, un, un, un, un, un, un, un, un, un, un, un, un, un, un, un, un, un, un, un, un, un, un, un, un, un, un, un, un, un, un, un, un, un, un, un, un, un, un, un, un, un, un, un, un, un, un, un, un, un, un, un, un, un, un] h) : AC Try.prog 4 [x0, x1] h R :=
  AC_of' (rs := [.tmp 4]) Try.func4 (by kernel_rfl) hd4 Try.ntmps4 rfl H
theorem dz4_0 {h0 : AH} {L : List It} {Q : Exit → List AV → List It → Prop} {a : List AV} {id : Nat} (H : LX Try.prog ⟨[], []⟩ h0 L L (.c (⟨some 67, .move (.tmp 7), none⟩, .p) <| .c (⟨some 68, .move (.tmp 11), none⟩, .p) <| .c (⟨some 69, .indexAddr 31 (.tmp 67) (.tmp 68), none⟩, .p) <| .c (⟨some 70, .load 3 (.tmp 69), none⟩, .l) <| .c (⟨some 71, .move (.tmp 6), none⟩, .p) <| .c (⟨some 72, .move (.tmp 5), none⟩, .p) <| .c (⟨some 73, .move (.tmp 11), none⟩, .p) <| .c (⟨some 74, .indexAddr 31 (.tmp 72) (.tmp 73), none⟩, .p) <| .c (⟨some 75, .load 3 (.tmp 74), none⟩, .l) <| .c (⟨some 76, .indexAddr 31 (.tmp 71) (.tmp 75), none⟩, .p) <| .c (⟨some 77, .load 3 (.tmp 76), none⟩, .l) <| .c (⟨some 78, .binOp .neq 3 (.tmp 70) (.tmp 77) 3, none⟩, .p) <| .n) Q a) : LI Try.prog h0 L (.raw (.region id rg4_0 true)) Q a :=
  LI_draw (.c (0, .p) <| .c (1, .p) <| .c (2, .p) <| .c (3, .l) <| .c (4, .p) <| .c (5, .p) <| .c (6, .p) <| .c (7, .p) <| .c (8, .l) <| .c (9, .p) <| .c (10, .l) <| .c (11, .p) <| .n) [] (by kernel_rfl) (by kernel_rfl) (by kernel_rfl) H
theorem dr4_0 (m : Nat) {Q : Exit → List AV → AH → Prop} {a : List AV} {h : AH} {id : Nat} (H : AX Try.prog m h [(⟨some 67, .move (.tmp 7), none⟩, true),
  (⟨some 68, .move (.tmp 11), none⟩, true),
  (⟨some 69, .indexAddr 31 (.tmp 67) (.tmp 68), none⟩, true),
  (⟨some 70, .load 3 (.tmp 69), none⟩, true),
  (⟨some 71, .move (.tmp 6), none⟩, true),
  (⟨some 72, .move (.tmp 5), none⟩, true),
  (⟨some 73, .move (.tmp 11), none⟩, true),
  (⟨some 74, .indexAddr 31 (.tmp 72) (.tmp 73), none⟩, true),
  (⟨some 75, .load 3 (.tmp 74), none⟩, true),
  (⟨some 76, .indexAddr 31 (.tmp 71) (.tmp 75), none⟩, true),
  (⟨some 77, .load 3 (.tmp 76), none⟩, true),
  (⟨some 78, .binOp .neq 3 (.tmp 70) (.tmp 77) 3, none⟩, true)] (fun a' h' => Q .normal a' h') a h) : AI Try.prog (.raw (.region id rg4_0 true)) Q a h :=
  AI_draw [(0, true), (1, true), (2, true), (3, true), (4, true), (5, true), (6, true), (7, true), (8, true), (9, true), (10, true), (11, true)] m (by kernel_rfl) (by kernel_rfl) (by kernel_rfl) H

end Go.Proofs.Ytcopnjopglfllaa
