/-
  The functions of the program, compiled (printed by a program of ours; each is held against the program's own text below).
-/
import Derived.Test.YtchmfcjfdhokoaaGreatDoorEvTab1
import Derived.Test.YtchmfcjfdhokoaaGreatDoorProg
import Derived.KernelRfl
namespace Go.Proofs.YtchmfcjfdhokoaaGreatDoor
namespace Ev
noncomputable section
def cf69 : CF := ⟨2, (.seq (.reg [⟨.l 4, .p (.mv), [.c (.str 0 0)], none, 0, 0⟩])
 (.seq (.reg [⟨.t 6, .p (.mv), [.l 0], none, 0, 0⟩, ⟨.t 7, .p (.nilc), [.t 6], none, 0, 0⟩, ⟨.t 8, .p (.fa 1), [.t 7], none, 0, 0⟩, ⟨.t 9, .r (.load false 1), [.t 8], none, 0, 0⟩, ⟨.l 5, .p (.mv), [.t 9], none, 0, 0⟩])
 (.seq (.block 0 (.loop (.seq (.seq (.regD [⟨.t 10, .p (.mv), [.l 0], none, 0, 0⟩, ⟨.t 11, .p (.nilc), [.t 10], none, 0, 0⟩, ⟨.t 12, .p (.fa 1), [.t 11], none, 0, 0⟩, ⟨.t 13, .r (.load false 1), [.t 12], none, 0, 0⟩, ⟨.t 14, .p (.mv), [.l 0], none, 0, 0⟩, ⟨.t 15, .p (.nilc), [.t 14], none, 0, 0⟩, ⟨.t 16, .p (.fa 0), [.t 15], none, 0, 0⟩, ⟨.t 17, .r (.load false 1), [.t 16], none, 0, 0⟩, ⟨.t 18, .p (.leng .str), [.t 17], none, 0, 0⟩, ⟨.t 19, .p (.bin .lss), [.t 13, .t 18], none, 0, 0⟩, ⟨.t 20, .p (.mv), [.t 19], none, 0, 0⟩, ⟨.t 21, .p (.mv), [.l 1], (some (.t 20, true)), 0, 0⟩, ⟨.t 22, .p (.mv), [.l 0], (some (.t 20, true)), 0, 0⟩, ⟨.t 23, .p (.nilc), [.t 22], (some (.t 20, true)), 0, 0⟩, ⟨.t 24, .p (.fa 0), [.t 23], (some (.t 20, true)), 0, 0⟩, ⟨.t 25, .r (.load false 1), [.t 24], (some (.t 20, true)), 0, 0⟩, ⟨.t 26, .p (.mv), [.l 0], (some (.t 20, true)), 0, 0⟩, ⟨.t 27, .p (.nilc), [.t 26], (some (.t 20, true)), 0, 0⟩, ⟨.t 28, .p (.fa 1), [.t 27], (some (.t 20, true)), 0, 0⟩, ⟨.t 29, .r (.load false 1), [.t 28], (some (.t 20, true)), 0, 0⟩, ⟨.t 30, .p (.ixstr), [.t 25, .t 29], (some (.t 20, true)), 0, 0⟩, ⟨.t 31, .callv, [.t 21, .t 30], (some (.t 20, true)), 0, 1⟩, ⟨.l 32, .p (.pick), [.t 20, .t 31, .c (.bool false)], none, 1, 1⟩])
 (.cond (.l 32) .skip
 (.exit 0)))
 (.block 1 (.reg [⟨.t 33, .p (.mv), [.l 0], none, 0, 0⟩, ⟨.t 34, .p (.nilc), [.t 33], none, 0, 0⟩, ⟨.t 35, .p (.fa 1), [.t 34], none, 0, 0⟩, ⟨.t 36, .r (.load false 1), [.t 35], none, 0, 0⟩, ⟨.t 37, .p (.bin .add), [.t 36, .c (.int .i64 1)], none, 0, 0⟩, ⟨.t 38, .p (.nilc), [.t 33], none, 0, 0⟩, ⟨.t 39, .p (.fa 1), [.t 38], none, 0, 0⟩, ⟨.no, .e (.store 1), [.t 39, .t 37], none, 0, 0⟩])))))
 (.seq (.regD [⟨.t 40, .p (.mv), [.l 0], none, 0, 0⟩, ⟨.t 41, .p (.nilc), [.t 40], none, 0, 0⟩, ⟨.t 42, .p (.fa 0), [.t 41], none, 0, 0⟩, ⟨.t 43, .r (.load false 1), [.t 42], none, 0, 0⟩, ⟨.t 44, .p (.mv), [.l 5], none, 0, 0⟩, ⟨.t 45, .p (.mv), [.l 0], none, 0, 0⟩, ⟨.t 46, .p (.nilc), [.t 45], none, 0, 0⟩, ⟨.t 47, .p (.fa 1), [.t 46], none, 0, 0⟩, ⟨.t 48, .r (.load false 1), [.t 47], none, 0, 0⟩, ⟨.t 49, .p (.slc .str true true false), [.t 43, .t 44, .t 48], none, 0, 0⟩, ⟨.l 4, .p (.mv), [.t 49], none, 0, 0⟩])
 .ret)))),
 [.tmp (.l 4)]⟩
theorem cf69_ok : compF TP Tryz.f69 = some cf69 := by kernel_rfl
def cf70 : CF := ⟨2, (.seq (.reg [⟨.l 3, .p (.mv), [.c (.bool false)], none, 0, 0⟩])
 (.seq (.reg [⟨.t 4, .r (.load false 1), [.l 1], none, 0, 0⟩, ⟨.t 5, .p (.mv), [.t 4], none, 0, 0⟩, ⟨.t 6, .p (.mv), [.l 0], (some (.t 5, true)), 0, 0⟩, ⟨.t 7, .p (.bin .neq), [.t 6, .c (.int .u8 10)], (some (.t 5, true)), 0, 0⟩, ⟨.t 8, .p (.pick), [.t 5, .t 7, .c (.bool false)], none, 0, 0⟩, ⟨.t 9, .p (.mv), [.t 8], none, 0, 0⟩, ⟨.t 10, .p (.mv), [.l 0], (some (.t 9, false)), 0, 0⟩, ⟨.t 11, .p (.bin .eql), [.t 10, .c (.int .u8 37)], (some (.t 9, false)), 0, 0⟩, ⟨.t 12, .p (.pick), [.t 9, .c (.bool true), .t 11], none, 0, 0⟩, ⟨.no, .e (.store 1), [.l 1, .t 12], none, 0, 0⟩])
 (.seq (.reg [⟨.t 13, .r (.load false 1), [.l 1], none, 0, 0⟩, ⟨.t 14, .p (.mv), [.t 13], none, 0, 0⟩, ⟨.t 15, .p (.mv), [.l 0], (some (.t 14, false)), 0, 0⟩, ⟨.t 16, .p (.bin .eql), [.t 15, .c (.int .u8 32)], (some (.t 14, false)), 0, 0⟩, ⟨.t 17, .p (.pick), [.t 14, .c (.bool true), .t 16], none, 0, 0⟩, ⟨.t 18, .p (.mv), [.t 17], none, 0, 0⟩, ⟨.t 19, .p (.mv), [.l 0], (some (.t 18, false)), 0, 0⟩, ⟨.t 20, .p (.bin .eql), [.t 19, .c (.int .u8 9)], (some (.t 18, false)), 0, 0⟩, ⟨.t 21, .p (.pick), [.t 18, .c (.bool true), .t 20], none, 0, 0⟩, ⟨.t 22, .p (.mv), [.t 21], none, 0, 0⟩, ⟨.t 23, .p (.mv), [.l 0], (some (.t 22, false)), 0, 0⟩, ⟨.t 24, .p (.bin .eql), [.t 23, .c (.int .u8 10)], (some (.t 22, false)), 0, 0⟩, ⟨.t 25, .p (.pick), [.t 22, .c (.bool true), .t 24], none, 0, 0⟩, ⟨.t 26, .p (.mv), [.t 25], none, 0, 0⟩, ⟨.t 27, .p (.mv), [.l 0], (some (.t 26, false)), 0, 0⟩, ⟨.t 28, .p (.bin .eql), [.t 27, .c (.int .u8 13)], (some (.t 26, false)), 0, 0⟩, ⟨.t 29, .p (.pick), [.t 26, .c (.bool true), .t 28], none, 0, 0⟩, ⟨.l 3, .p (.mv), [.t 29], none, 0, 0⟩])
 .ret))),
 [.tmp (.l 3)]⟩
theorem cf70_ok : compF TP Tryz.f70 = some cf70 := by kernel_rfl
def cf71 : CF := ⟨1, (.seq (.reg [⟨.l 2, .p (.mv), [.c (.bool false)], none, 0, 0⟩])
 (.seq (.reg [⟨.t 3, .p (.mv), [.l 0], none, 0, 0⟩, ⟨.t 4, .p (.bin .geq), [.t 3, .c (.int .u8 97)], none, 0, 0⟩, ⟨.t 5, .p (.mv), [.t 4], none, 0, 0⟩, ⟨.t 6, .p (.mv), [.l 0], (some (.t 5, true)), 0, 0⟩, ⟨.t 7, .p (.bin .leq), [.t 6, .c (.int .u8 122)], (some (.t 5, true)), 0, 0⟩, ⟨.t 8, .p (.pick), [.t 5, .t 7, .c (.bool false)], none, 0, 0⟩, ⟨.t 9, .p (.mv), [.t 8], none, 0, 0⟩, ⟨.t 10, .p (.mv), [.l 0], (some (.t 9, false)), 0, 0⟩, ⟨.t 11, .p (.bin .geq), [.t 10, .c (.int .u8 65)], (some (.t 9, false)), 0, 0⟩, ⟨.t 12, .p (.mv), [.t 11], (some (.t 9, false)), 0, 0⟩, ⟨.t 13, .p (.mv), [.l 0], (some (.t 12, true)), 0, 0⟩, ⟨.t 14, .p (.bin .leq), [.t 13, .c (.int .u8 90)], (some (.t 12, true)), 0, 0⟩, ⟨.t 15, .p (.pick), [.t 12, .t 14, .c (.bool false)], (some (.t 9, false)), 0, 0⟩, ⟨.t 16, .p (.pick), [.t 9, .c (.bool true), .t 15], none, 0, 0⟩, ⟨.l 2, .p (.mv), [.t 16], none, 0, 0⟩])
 .ret)),
 [.tmp (.l 2)]⟩
theorem cf71_ok : compF TP Tryz.f71 = some cf71 := by kernel_rfl
def cf72 : CF := ⟨2, (.seq (.reg [⟨.l 4, .a (.alloc [(.int .i64 0), (.str 0 0), (.int .u64 0), (.int .i64 0)]), [], none, 0, 0⟩, ⟨.l 5, .p (.mv), [.c (.int .i64 0)], none, 0, 0⟩])
 (.seq (.reg [⟨.t 7, .p (.mv), [.l 0], none, 0, 0⟩, ⟨.t 8, .call 69, [.t 7, .c (.func (.func 115) [] [])], none, 0, 0⟩, ⟨.l 6, .p (.mv), [.t 8], none, 0, 0⟩])
 (.seq (.block 0 (.seq (.reg [⟨.t 10, .p (.mv), [.l 6], none, 0, 0⟩, ⟨.t 11, .p (.leng .str), [.t 10], none, 0, 0⟩, ⟨.t 12, .p (.bin .gtr), [.t 11, .c (.int .i64 32)], none, 0, 0⟩, ⟨.l 9, .p (.mv), [.t 12], none, 0, 0⟩])
 (.cond (.l 9) (.seq (.reg [⟨.t 13, .p (.build [(.int .i64 0), (.str 0 0), (.int .u64 0), (.int .i64 0)] []), [], none, 0, 0⟩, ⟨.no, .e (.store 4), [.l 4, .t 13], none, 0, 0⟩, ⟨.l 5, .p (.mv), [.c (.int .i64 91)], none, 0, 0⟩])
 .ret)
 (.seq (.reg [⟨.t 15, .p (.mv), [.l 0], none, 0, 0⟩, ⟨.t 16, .p (.nilc), [.t 15], none, 0, 0⟩, ⟨.t 17, .p (.fa 2), [.t 16], none, 0, 0⟩, ⟨.t 18, .r (.load false 1), [.t 17], none, 0, 0⟩, ⟨.t 19, .p (.mv), [.l 6], none, 0, 0⟩, ⟨.t 20, .r (.lookup (.one .s) false (.int .i64 0)), [.t 18, .t 19], none, 0, 0⟩, ⟨.t 21, .p (.bin .gtr), [.t 20, .c (.int .i64 0)], none, 0, 0⟩, ⟨.l 14, .p (.mv), [.t 21], none, 0, 0⟩])
 (.cond (.l 14) (.reg [⟨.l 1, .p (.mv), [.c (.int .i64 5)], none, 0, 0⟩])
 .skip)))))
 (.seq (.reg [⟨.t 22, .p (.mv), [.l 1], none, 0, 0⟩, ⟨.t 23, .p (.mv), [.l 6], none, 0, 0⟩, ⟨.t 24, .p (.build [(.int .i64 0), (.str 0 0), (.int .u64 0), (.int .i64 0)] [(0, 1), (1, 1)]), [.t 22, .t 23], none, 0, 0⟩, ⟨.no, .e (.store 4), [.l 4, .t 24], none, 0, 0⟩, ⟨.l 5, .p (.mv), [.c (.int .i64 0)], none, 0, 0⟩])
 .ret)))),
 [.cell (.l 4) true 4, .tmp (.l 5)]⟩
theorem cf72_ok : compF TP Tryz.f72 = some cf72 := by kernel_rfl
def cf73 : CF := ⟨1, (.seq (.reg [⟨.l 2, .p (.mv), [.c (.bool false)], none, 0, 0⟩])
 (.seq (.reg [⟨.t 3, .p (.mv), [.l 0], none, 0, 0⟩, ⟨.t 4, .p (.bin .geq), [.t 3, .c (.int .u8 48)], none, 0, 0⟩, ⟨.t 5, .p (.mv), [.t 4], none, 0, 0⟩, ⟨.t 6, .p (.mv), [.l 0], (some (.t 5, true)), 0, 0⟩, ⟨.t 7, .p (.bin .leq), [.t 6, .c (.int .u8 57)], (some (.t 5, true)), 0, 0⟩, ⟨.t 8, .p (.pick), [.t 5, .t 7, .c (.bool false)], none, 0, 0⟩, ⟨.l 2, .p (.mv), [.t 8], none, 0, 0⟩])
 .ret)),
 [.tmp (.l 2)]⟩
theorem cf73_ok : compF TP Tryz.f73 = some cf73 := by kernel_rfl
def cf74 : CF := ⟨1, (.seq (.reg [⟨.l 2, .a (.alloc [(.int .i64 0), (.str 0 0), (.int .u64 0), (.int .i64 0)]), [], none, 0, 0⟩, ⟨.l 3, .p (.mv), [.c (.int .i64 0)], none, 0, 0⟩])
 (.seq (.reg [⟨.t 7, .p (.mv), [.l 0], none, 0, 0⟩, ⟨.t 8, .call 69, [.t 7, .c (.func (.func 73) [] [])], none, 0, 0⟩, ⟨.l 4, .p (.mv), [.t 8], none, 0, 0⟩])
 (.seq (.reg [⟨.t 10, .p (.mv), [.l 4], none, 0, 0⟩, ⟨.t 11, .call 116, [.t 10, .c (.int .i64 10), .c (.int .i64 64)], none, 0, 0⟩, ⟨.t 9, .p (.mv), [.t 11], none, 0, 0⟩, ⟨.t 12, .p (.ext 0), [.t 9], none, 0, 0⟩, ⟨.t 13, .p (.ext 1), [.t 9], none, 0, 0⟩, ⟨.l 5, .p (.mv), [.t 12], none, 0, 0⟩, ⟨.l 6, .p (.mv), [.t 13], none, 0, 0⟩])
 (.seq (.seq (.regD [⟨.t 14, .p (.mv), [.l 6], none, 0, 0⟩, ⟨.t 15, .p (.eqd .i true), [.t 14, .c .nili], none, 0, 0⟩, ⟨.t 16, .p (.mv), [.t 15], none, 0, 0⟩, ⟨.t 17, .p (.mv), [.l 5], (some (.t 16, false)), 0, 0⟩, ⟨.t 18, .p (.bin .gtr), [.t 17, .c (.int .u64 9223372036854775808)], (some (.t 16, false)), 0, 0⟩, ⟨.t 19, .p (.pick), [.t 16, .c (.bool true), .t 18], none, 0, 0⟩, ⟨.t 20, .p (.mv), [.t 19], none, 0, 0⟩, ⟨.t 21, .p (.mv), [.l 4], (some (.t 20, false)), 0, 0⟩, ⟨.t 22, .p (.leng .str), [.t 21], (some (.t 20, false)), 0, 0⟩, ⟨.t 23, .p (.bin .gtr), [.t 22, .c (.int .i64 1)], (some (.t 20, false)), 0, 0⟩, ⟨.t 24, .p (.mv), [.t 23], (some (.t 20, false)), 0, 0⟩, ⟨.t 25, .p (.mv), [.l 4], (some (.t 24, true)), 0, 0⟩, ⟨.t 26, .p (.ixstr), [.t 25, .c (.int .i64 0)], (some (.t 24, true)), 0, 0⟩, ⟨.t 27, .p (.bin .eql), [.t 26, .c (.int .u8 48)], (some (.t 24, true)), 0, 0⟩, ⟨.t 28, .p (.pick), [.t 24, .t 27, .c (.bool false)], (some (.t 20, false)), 0, 0⟩, ⟨.t 29, .p (.pick), [.t 20, .c (.bool true), .t 28], none, 0, 0⟩, ⟨.t 30, .p (.mv), [.t 29], none, 0, 0⟩, ⟨.t 31, .p (.mv), [.l 0], (some (.t 30, false)), 0, 0⟩, ⟨.t 32, .p (.nilc), [.t 31], (some (.t 30, false)), 0, 0⟩, ⟨.t 33, .p (.fa 1), [.t 32], (some (.t 30, false)), 0, 0⟩, ⟨.t 34, .r (.load false 1), [.t 33], (some (.t 30, false)), 0, 0⟩, ⟨.t 35, .p (.mv), [.l 0], (some (.t 30, false)), 0, 0⟩, ⟨.t 36, .p (.nilc), [.t 35], (some (.t 30, false)), 0, 0⟩, ⟨.t 37, .p (.fa 0), [.t 36], (some (.t 30, false)), 0, 0⟩, ⟨.t 38, .r (.load false 1), [.t 37], (some (.t 30, false)), 0, 0⟩, ⟨.t 39, .p (.leng .str), [.t 38], (some (.t 30, false)), 0, 0⟩, ⟨.t 40, .p (.bin .lss), [.t 34, .t 39], (some (.t 30, false)), 0, 0⟩, ⟨.t 41, .p (.mv), [.t 40], (some (.t 30, false)), 0, 0⟩, ⟨.t 42, .p (.mv), [.l 0], (some (.t 41, true)), 0, 0⟩, ⟨.t 43, .p (.nilc), [.t 42], (some (.t 41, true)), 0, 0⟩, ⟨.t 44, .p (.fa 0), [.t 43], (some (.t 41, true)), 0, 0⟩, ⟨.t 45, .r (.load false 1), [.t 44], (some (.t 41, true)), 0, 0⟩, ⟨.t 46, .p (.mv), [.l 0], (some (.t 41, true)), 0, 0⟩, ⟨.t 47, .p (.nilc), [.t 46], (some (.t 41, true)), 0, 0⟩, ⟨.t 48, .p (.fa 1), [.t 47], (some (.t 41, true)), 0, 0⟩, ⟨.t 49, .r (.load false 1), [.t 48], (some (.t 41, true)), 0, 0⟩, ⟨.t 50, .p (.ixstr), [.t 45, .t 49], (some (.t 41, true)), 0, 0⟩, ⟨.t 51, .call 115, [.t 50], (some (.t 41, true)), 0, 1⟩, ⟨.t 52, .p (.pick), [.t 41, .t 51, .c (.bool false)], (some (.t 30, false)), 1, 1⟩, ⟨.l 53, .p (.pick), [.t 30, .c (.bool true), .t 52], none, 1, 1⟩])
 (.cond (.l 53) (.seq (.reg [⟨.t 54, .p (.build [(.int .i64 0), (.str 0 0), (.int .u64 0), (.int .i64 0)] []), [], none, 0, 0⟩, ⟨.no, .e (.store 4), [.l 2, .t 54], none, 0, 0⟩, ⟨.l 3, .p (.mv), [.c (.int .i64 92)], none, 0, 0⟩])
 .ret)
 .skip))
 (.seq (.reg [⟨.t 55, .p (.mv), [.l 5], none, 0, 0⟩, ⟨.t 56, .p (.build [(.int .i64 0), (.str 0 0), (.int .u64 0), (.int .i64 0)] [(0, 1), (2, 1)]), [.c (.int .i64 3), .t 55], none, 0, 0⟩, ⟨.no, .e (.store 4), [.l 2, .t 56], none, 0, 0⟩, ⟨.l 3, .p (.mv), [.c (.int .i64 0)], none, 0, 0⟩])
 .ret))))),
 [.cell (.l 2) true 4, .tmp (.l 3)]⟩
theorem cf74_ok : compF TP Tryz.f74 = some cf74 := by kernel_rfl
def cf76 : CF := ⟨1, (.seq (.reg [⟨.l 2, .p (.mv), [.c (.int .i64 0)], none, 0, 0⟩])
 (.seq (.seq (.reg [⟨.t 4, .p (.mv), [.l 0], none, 0, 0⟩, ⟨.t 5, .p (.leng .str), [.t 4], none, 0, 0⟩, ⟨.t 6, .p (.mins), [.c (.int .i64 3), .t 5], none, 0, 0⟩, ⟨.l 3, .p (.mv), [.t 6], none, 0, 0⟩])
 (.block 0 (.loop (.seq (.seq (.reg [⟨.t 7, .p (.mv), [.l 3], none, 0, 0⟩, ⟨.l 8, .p (.bin .gtr), [.t 7, .c (.int .i64 0)], none, 0, 0⟩])
 (.cond (.l 8) .skip
 (.exit 0)))
 (.seq (.block 1 (.seq (.seq (.reg [⟨.t 11, .p (.mv), [.l 0], none, 0, 0⟩, ⟨.t 12, .p (.mv), [.l 3], none, 0, 0⟩, ⟨.l 13, .p (.slc .str false true false), [.t 11, .t 12], none, 0, 0⟩])
 (.block 2 (.seq (.seq (.reg [⟨.t 15, .p (.bin .eql), [.l 13, .c (.str 3 4012605)], none, 0, 0⟩, ⟨.l 14, .p (.mv), [.t 15], none, 0, 0⟩])
 (.cond (.l 14) .skip
 (.seq (.reg [⟨.t 16, .p (.bin .eql), [.l 13, .c (.str 3 4009789)], none, 0, 0⟩, ⟨.l 14, .p (.mv), [.t 16], none, 0, 0⟩])
 (.cond (.l 14) .skip
 (.seq (.reg [⟨.t 17, .p (.bin .eql), [.l 13, .c (.str 2 15917)], none, 0, 0⟩, ⟨.l 14, .p (.mv), [.t 17], none, 0, 0⟩])
 (.cond (.l 14) .skip
 (.seq (.reg [⟨.t 18, .p (.bin .eql), [.l 13, .c (.str 2 11051)], none, 0, 0⟩, ⟨.l 14, .p (.mv), [.t 18], none, 0, 0⟩])
 (.cond (.l 14) .skip
 (.seq (.reg [⟨.t 19, .p (.bin .eql), [.l 13, .c (.str 2 15420)], none, 0, 0⟩, ⟨.l 14, .p (.mv), [.t 19], none, 0, 0⟩])
 (.cond (.l 14) .skip
 (.seq (.reg [⟨.t 20, .p (.bin .eql), [.l 13, .c (.str 2 15934)], none, 0, 0⟩, ⟨.l 14, .p (.mv), [.t 20], none, 0, 0⟩])
 (.cond (.l 14) .skip
 (.seq (.reg [⟨.t 21, .p (.bin .eql), [.l 13, .c (.str 2 15421)], none, 0, 0⟩, ⟨.l 14, .p (.mv), [.t 21], none, 0, 0⟩])
 (.cond (.l 14) .skip
 (.reg [⟨.t 22, .p (.bin .eql), [.l 13, .c (.str 2 15678)], none, 0, 0⟩, ⟨.l 14, .p (.mv), [.t 22], none, 0, 0⟩])))))))))))))))
 (.cond (.l 14) (.seq (.reg [⟨.t 23, .p (.mv), [.l 3], none, 0, 0⟩, ⟨.l 2, .p (.mv), [.t 23], none, 0, 0⟩])
 .ret)
 .skip))))
 (.seq (.reg [⟨.t 24, .p (.mv), [.l 3], none, 0, 0⟩, ⟨.t 25, .p (.bin .eql), [.t 24, .c (.int .i64 1)], none, 0, 0⟩, ⟨.t 26, .p (.mv), [.t 25], none, 0, 0⟩, ⟨.t 27, .p (.mv), [.l 0], (some (.t 26, true)), 0, 0⟩, ⟨.t 28, .p (.slc .str false true false), [.t 27, .c (.int .i64 1)], (some (.t 26, true)), 0, 0⟩, ⟨.t 29, .call 107, [.c (.str 19 1387887291363983384176110501363823770573941032), .t 28], (some (.t 26, true)), 0, 0⟩, ⟨.l 30, .p (.pick), [.t 26, .t 29, .c (.bool false)], none, 0, 0⟩])
 (.cond (.l 30) (.seq (.reg [⟨.l 2, .p (.mv), [.c (.int .i64 1)], none, 0, 0⟩])
 .ret)
 .skip))))
 (.reg [⟨.t 9, .p (.mv), [.l 3], none, 0, 0⟩, ⟨.t 10, .p (.bin .sub), [.t 9, .c (.int .i64 1)], none, 0, 0⟩, ⟨.l 3, .p (.mv), [.t 10], none, 0, 0⟩]))))))
 (.seq (.reg [⟨.l 2, .p (.mv), [.c (.int .i64 0)], none, 0, 0⟩])
 .ret))),
 [.tmp (.l 2)]⟩
theorem cf76_ok : compF TP Tryz.f76 = some cf76 := by kernel_rfl
def cf77 : CF := ⟨1, (.seq (.reg [⟨.l 2, .a (.alloc [(.int .i64 0), (.int .i64 0), (.str 0 0), (.str 0 0), .nils, .nils, .nils, .nils, .nils, .nils, (.bool false)]), [], none, 0, 0⟩])
 (.seq (.reg [⟨.t 3, .p (.mv), [.l 0], none, 0, 0⟩, ⟨.t 4, .call 120, [.t 3, .c (.int .i64 0)], none, 0, 0⟩, ⟨.no, .e (.store 11), [.l 2, .t 4], none, 0, 0⟩])
 .ret)),
 [.cell (.l 2) true 11]⟩
theorem cf77_ok : compF TP Tryz.f77 = some cf77 := by kernel_rfl
def cf78 : CF := ⟨3, (.seq (.reg [⟨.l 6, .p (.mv), [.c .nils], none, 0, 0⟩])
 (.seq (.reg [⟨.t 8, .p (.mv), [.l 2], none, 0, 0⟩, ⟨.t 9, .callv, [.t 8], none, 0, 0⟩, ⟨.t 10, .a (.bslice [(.int .i64 0), (.int .i64 0), (.str 0 0), (.str 0 0), .nils, .nils, .nils, .nils, .nils, .nils, (.bool false)] 1 11 [(0, 11)]), [.t 9], none, 0, 0⟩, ⟨.l 7, .p (.mv), [.t 10], none, 0, 0⟩])
 (.seq (.block 0 (.loop (.seq (.seq (.reg [⟨.t 11, .p (.mv), [.l 0], none, 0, 0⟩, ⟨.t 12, .p (.mv), [.l 1], none, 0, 0⟩, ⟨.l 13, .call 54, [.t 11, .t 12], none, 0, 0⟩])
 (.cond (.l 13) .skip
 (.exit 0)))
 (.block 1 (.reg [⟨.t 14, .p (.mv), [.l 7], none, 0, 0⟩, ⟨.t 15, .p (.mv), [.l 2], none, 0, 0⟩, ⟨.t 16, .callv, [.t 15], none, 0, 0⟩, ⟨.t 17, .a (.bslice [(.int .i64 0), (.int .i64 0), (.str 0 0), (.str 0 0), .nils, .nils, .nils, .nils, .nils, .nils, (.bool false)] 1 11 [(0, 11)]), [.t 16], none, 0, 0⟩, ⟨.t 18, .e (.append 11 200 none), [.t 14, .t 17], none, 0, 0⟩, ⟨.l 7, .p (.mv), [.t 18], none, 0, 0⟩])))))
 (.seq (.reg [⟨.t 19, .p (.mv), [.l 7], none, 0, 0⟩, ⟨.l 6, .p (.mv), [.t 19], none, 0, 0⟩])
 .ret)))),
 [.tmp (.l 6)]⟩
theorem cf78_ok : compF TP Tryz.f78 = some cf78 := by kernel_rfl
def cf81 : CF := ⟨1, (.seq (.reg [⟨.l 1, .a (.box), [.l 0], none, 0, 0⟩, ⟨.l 2, .p (.mv), [.c .nils], none, 0, 0⟩])
 (.seq (.reg [⟨.t 3, .r (.load false 1), [.l 1], none, 0, 0⟩, ⟨.t 4, .p (.mkf (.func 126) 0), [.l 1], none, 0, 0⟩, ⟨.t 5, .call 125, [.t 3, .c (.str 1 44), .t 4], none, 0, 0⟩, ⟨.l 2, .p (.mv), [.t 5], none, 0, 0⟩])
 .ret)),
 [.tmp (.l 2)]⟩
theorem cf81_ok : compF TP Tryz.f81 = some cf81 := by kernel_rfl
def cf82 : CF := ⟨1, (.seq (.reg [⟨.l 2, .a (.alloc [(.str 0 0), .nils, .nils, .nils]), [], none, 0, 0⟩])
 (.seq (.reg [⟨.t 3, .p (.mv), [.l 0], none, 0, 0⟩, ⟨.t 4, .p (.mv), [.l 0], none, 0, 0⟩, ⟨.t 5, .call 77, [.t 4], none, 0, 0⟩, ⟨.t 6, .a (.bslice [(.int .i64 0), (.int .i64 0), (.str 0 0), (.str 0 0), .nils, .nils, .nils, .nils, .nils, .nils, (.bool false)] 1 11 [(0, 11)]), [.t 5], none, 0, 0⟩, ⟨.t 7, .p (.build [(.str 0 0), .nils, .nils, .nils] [(1, 1)]), [.t 6], none, 0, 0⟩, ⟨.t 8, .call 85, [.t 3, .t 7], none, 0, 0⟩, ⟨.no, .e (.store 4), [.l 2, .t 8], none, 0, 0⟩])
 .ret)),
 [.cell (.l 2) true 4]⟩
theorem cf82_ok : compF TP Tryz.f82 = some cf82 := by kernel_rfl
def cf83 : CF := ⟨1, (.seq (.reg [⟨.l 2, .a (.alloc [(.str 0 0), .nils, .nils, .nils]), [], none, 0, 0⟩])
 (.seq (.reg [⟨.l 3, .a (.alloc [(.int .i64 0), (.int .i64 0), (.str 0 0), (.str 0 0), .nils, .nils, .nils, .nils, .nils, .nils, (.bool false)]), [], none, 0, 0⟩])
 (.seq (.seq (.reg [⟨.t 5, .p (.mv), [.l 0], none, 0, 0⟩, ⟨.t 6, .call 51, [.t 5, .c (.int .i64 0)], none, 0, 0⟩, ⟨.l 4, .a (.alloc [(.int .i64 0), (.str 0 0), (.int .u64 0), (.int .i64 0)]), [], none, 0, 0⟩, ⟨.no, .e (.store 4), [.l 4, .t 6], none, 0, 0⟩])
 (.seq (.reg [⟨.t 7, .p (.fa 0), [.l 4], none, 0, 0⟩, ⟨.t 8, .r (.load false 1), [.t 7], none, 0, 0⟩, ⟨.l 9, .p (.bin .eql), [.t 8, .c (.int .i64 2)], none, 0, 0⟩])
 (.cond (.l 9) (.seq (.reg [⟨.t 10, .p (.mv), [.l 0], none, 0, 0⟩, ⟨.t 11, .p (.nilc), [.t 10], none, 0, 0⟩, ⟨.t 12, .p (.fa 1), [.t 11], none, 0, 0⟩, ⟨.t 13, .r (.load false 1), [.t 12], none, 0, 0⟩, ⟨.t 14, .p (.bin .add), [.t 13, .c (.int .i64 1)], none, 0, 0⟩, ⟨.t 15, .p (.nilc), [.t 10], none, 0, 0⟩, ⟨.t 16, .p (.fa 1), [.t 15], none, 0, 0⟩, ⟨.no, .e (.store 1), [.t 16, .t 14], none, 0, 0⟩])
 (.reg [⟨.t 17, .p (.fa 1), [.l 4], none, 0, 0⟩, ⟨.t 18, .r (.load false 1), [.t 17], none, 0, 0⟩, ⟨.t 19, .call 127, [.t 18], none, 0, 0⟩, ⟨.no, .e (.store 11), [.l 3, .t 19], none, 0, 0⟩]))
 (.reg [⟨.t 20, .p (.mv), [.l 0], none, 0, 0⟩, ⟨.t 21, .a (.bslice [(.str 0 0)] 3 1 [(0, 1), (1, 1), (2, 1)]), [.c (.str 5 491496043109), .c (.str 4 1953069157), .c (.str 5 512970877044)], none, 0, 0⟩, ⟨.t 22, .call 20, [.t 20, .t 21], none, 0, 0⟩, ⟨.t 23, .p (.build [(.int .i64 0), (.int .i64 0), (.str 0 0), (.str 0 0), .nils, .nils, .nils, .nils, .nils, .nils, (.bool false)] [(0, 1), (2, 1)]), [.c (.int .i64 2), .t 22], none, 0, 0⟩, ⟨.no, .e (.store 11), [.l 3, .t 23], none, 0, 0⟩]))))
 (.seq (.reg [⟨.t 24, .p (.mv), [.l 0], none, 0, 0⟩, ⟨.t 25, .call 28, [.t 24, .c (.str 1 58)], none, 0, 0⟩])
 (.seq (.regD [⟨.t 26, .p (.mv), [.l 0], none, 0, 1⟩, ⟨.t 27, .r (.load true 11), [.l 3], none, 0, 1⟩, ⟨.t 28, .p (.mv), [.l 0], none, 0, 0⟩, ⟨.t 29, .call 77, [.t 28], none, 0, 1⟩, ⟨.t 30, .a (.bslice [(.int .i64 0), (.int .i64 0), (.str 0 0), (.str 0 0), .nils, .nils, .nils, .nils, .nils, .nils, (.bool false)] 2 11 [(0, 11), (11, 11)]), [.t 27, .t 29], none, 1, 1⟩, ⟨.t 31, .p (.build [(.str 0 0), .nils, .nils, .nils] [(1, 1)]), [.t 30], none, 1, 1⟩, ⟨.t 32, .call 85, [.t 26, .t 31], none, 1, 2⟩, ⟨.no, .e (.store 4), [.l 2, .t 32], none, 2, 3⟩])
 .ret))))),
 [.cell (.l 2) true 4]⟩
theorem cf83_ok : compF TP Tryz.f83 = some cf83 := by kernel_rfl
def cf84 : CF := ⟨2, (.seq (.reg [⟨.l 4, .p (.mv), [.c (.int .i64 0)], none, 0, 0⟩])
 (.seq (.seq (.reg [⟨.t 6, .p (.mv), [.l 0], none, 0, 0⟩, ⟨.l 7, .p (.leng .sl), [.t 6], none, 0, 0⟩, ⟨.l 8, .p (.mv), [.c (.int .i64 0)], none, 0, 0⟩])
 (.block 0 (.loop (.seq (.reg [⟨.l 9, .p (.bin .lss), [.l 8, .l 7], none, 0, 0⟩])
 (.seq (.cond (.l 9) .skip
 (.exit 0))
 (.seq (.block 1 (.seq (.reg [⟨.t 10, .p (.mv), [.l 8], none, 0, 0⟩, ⟨.l 5, .p (.mv), [.t 10], none, 0, 0⟩])
 (.seq (.reg [⟨.t 11, .p (.mv), [.l 1], none, 0, 0⟩, ⟨.t 12, .p (.mv), [.l 0], none, 0, 0⟩, ⟨.t 13, .p (.mv), [.l 5], none, 0, 0⟩, ⟨.t 14, .p (.ixsl 1), [.t 12, .t 13], none, 0, 0⟩, ⟨.t 15, .r (.load false 1), [.t 14], none, 0, 0⟩, ⟨.l 16, .p (.bin .eql), [.t 11, .t 15], none, 0, 0⟩])
 (.cond (.l 16) (.seq (.reg [⟨.t 17, .p (.mv), [.l 5], none, 0, 0⟩, ⟨.l 4, .p (.mv), [.t 17], none, 0, 0⟩])
 .ret)
 .skip))))
 (.reg [⟨.t 18, .p (.bin .add), [.l 8, .c (.int .i64 1)], none, 0, 0⟩, ⟨.l 8, .p (.mv), [.t 18], none, 0, 0⟩])))))))
 (.seq (.reg [⟨.l 4, .p (.mv), [.c (.int .i64 (-1))], none, 0, 0⟩])
 .ret))),
 [.tmp (.l 4)]⟩
theorem cf84_ok : compF TP Tryz.f84 = some cf84 := by kernel_rfl
def cf85 : CF := ⟨2, (.seq (.reg [⟨.l 2, .a (.box), [.l 0], none, 0, 0⟩, ⟨.l 3, .a (.box), [.l 1], none, 0, 0⟩, ⟨.l 4, .a (.alloc [(.str 0 0), .nils, .nils, .nils]), [], none, 0, 0⟩])
 (.seq (.seq (.reg [⟨.t 5, .r (.load false 1), [.l 2], none, 0, 0⟩, ⟨.l 6, .call 54, [.t 5, .c (.str 4 1852139639)], none, 0, 0⟩])
 (.cond (.l 6) (.reg [⟨.t 7, .r (.load false 1), [.l 2], none, 0, 0⟩, ⟨.t 8, .p (.mkf (.func 129) 0), [.l 2], none, 0, 0⟩, ⟨.t 9, .call 128, [.t 7, .c (.str 1 59), .t 8], none, 0, 0⟩, ⟨.t 10, .p (.fa 2), [.l 3], none, 0, 0⟩, ⟨.no, .e (.store 1), [.t 10, .t 9], none, 0, 0⟩])
 .skip))
 (.seq (.reg [⟨.t 11, .r (.load false 1), [.l 2], none, 0, 0⟩, ⟨.t 12, .call 28, [.t 11, .c (.str 2 15917)], none, 0, 0⟩])
 (.seq (.reg [⟨.t 13, .r (.load false 1), [.l 2], none, 0, 0⟩, ⟨.t 14, .call 81, [.t 13], none, 0, 0⟩, ⟨.t 15, .p (.fa 3), [.l 3], none, 0, 0⟩, ⟨.no, .e (.store 1), [.t 15, .t 14], none, 0, 0⟩])
 (.seq (.reg [⟨.t 16, .r (.load true 4), [.l 3], none, 0, 0⟩, ⟨.no, .e (.store 4), [.l 4, .t 16], none, 0, 0⟩])
 .ret))))),
 [.cell (.l 4) true 4]⟩
theorem cf85_ok : compF TP Tryz.f85 = some cf85 := by kernel_rfl
def cf86 : CF := ⟨2, (.seq (.reg [⟨.l 4, .p (.mv), [.c .nils], none, 0, 0⟩])
 (.seq (.reg [⟨.t 5, .p (.mv), [.l 0], none, 0, 0⟩, ⟨.t 6, .call 24, [.t 5, .c (.str 1 40)], none, 0, 0⟩])
 (.seq (.seq (.reg [⟨.t 7, .p (.mv), [.l 0], none, 0, 0⟩, ⟨.t 8, .a (.bslice [(.str 0 0)] 1 1 [(0, 1)]), [.c (.str 1 41)], none, 0, 0⟩, ⟨.t 9, .call 25, [.t 7, .t 8], none, 0, 0⟩, ⟨.l 10, .p (.un .not), [.t 9], none, 0, 0⟩])
 (.cond (.l 10) (.reg [⟨.t 11, .p (.mv), [.l 1], none, 0, 0⟩, ⟨.t 12, .p (.mv), [.l 0], none, 0, 0⟩, ⟨.t 13, .p (.mv), [.l 0], none, 0, 0⟩, ⟨.t 14, .p (.mkf (.func 77) 1), [.t 13], none, 0, 0⟩, ⟨.t 15, .call 78, [.t 12, .c (.str 1 44), .t 14], none, 0, 0⟩, ⟨.t 16, .e (.append 11 200 none), [.t 11, .t 15], none, 0, 0⟩, ⟨.l 1, .p (.mv), [.t 16], none, 0, 0⟩])
 .skip))
 (.seq (.reg [⟨.t 17, .p (.mv), [.l 0], none, 0, 0⟩, ⟨.t 18, .call 29, [.t 17, .c (.str 1 41)], none, 0, 0⟩])
 (.seq (.reg [⟨.t 19, .p (.mv), [.l 1], none, 0, 0⟩, ⟨.l 4, .p (.mv), [.t 19], none, 0, 0⟩])
 .ret))))),
 [.tmp (.l 4)]⟩
theorem cf86_ok : compF TP Tryz.f86 = some cf86 := by kernel_rfl
def cf87 : CF := ⟨2, (.seq (.reg [⟨.l 4, .p (.mv), [.c (.int .i64 0)], none, 0, 0⟩])
 (.seq (.seq (.reg [⟨.t 6, .p (.mv), [.l 0], none, 0, 0⟩, ⟨.l 7, .p (.leng .sl), [.t 6], none, 0, 0⟩, ⟨.l 8, .p (.mv), [.c (.int .i64 0)], none, 0, 0⟩])
 (.block 0 (.loop (.seq (.reg [⟨.l 9, .p (.bin .lss), [.l 8, .l 7], none, 0, 0⟩])
 (.seq (.cond (.l 9) .skip
 (.exit 0))
 (.seq (.block 1 (.seq (.reg [⟨.t 10, .p (.mv), [.l 8], none, 0, 0⟩, ⟨.l 5, .p (.mv), [.t 10], none, 0, 0⟩])
 (.seq (.reg [⟨.t 11, .p (.mv), [.l 1], none, 0, 0⟩, ⟨.t 12, .p (.mv), [.l 0], none, 0, 0⟩, ⟨.t 13, .p (.mv), [.l 5], none, 0, 0⟩, ⟨.t 14, .p (.ixsl 1), [.t 12, .t 13], none, 0, 0⟩, ⟨.t 15, .r (.load false 1), [.t 14], none, 0, 0⟩, ⟨.l 16, .callv, [.t 11, .t 15], none, 0, 0⟩])
 (.cond (.l 16) (.seq (.reg [⟨.t 17, .p (.mv), [.l 5], none, 0, 0⟩, ⟨.l 4, .p (.mv), [.t 17], none, 0, 0⟩])
 .ret)
 .skip))))
 (.reg [⟨.t 18, .p (.bin .add), [.l 8, .c (.int .i64 1)], none, 0, 0⟩, ⟨.l 8, .p (.mv), [.t 18], none, 0, 0⟩])))))))
 (.seq (.reg [⟨.l 4, .p (.mv), [.c (.int .i64 (-1))], none, 0, 0⟩])
 .ret))),
 [.tmp (.l 4)]⟩
theorem cf87_ok : compF TP Tryz.f87 = some cf87 := by kernel_rfl
def cf88 : CF := ⟨2, (.seq (.reg [⟨.l 4, .p (.mv), [.c (.bool false)], none, 0, 0⟩])
 (.seq (.reg [⟨.t 5, .p (.mv), [.l 0], none, 0, 0⟩, ⟨.t 6, .p (.mv), [.l 1], none, 0, 0⟩, ⟨.t 7, .call 130, [.t 5, .t 6], none, 0, 0⟩, ⟨.t 8, .p (.bin .geq), [.t 7, .c (.int .i64 0)], none, 0, 0⟩, ⟨.l 4, .p (.mv), [.t 8], none, 0, 0⟩])
 .ret)),
 [.tmp (.l 4)]⟩
theorem cf88_ok : compF TP Tryz.f88 = some cf88 := by kernel_rfl
def cf89 : CF := ⟨1, (.seq (.reg [⟨.l 1, .a (.box), [.l 0], none, 0, 0⟩, ⟨.l 2, .p (.mv), [.c (.bool false)], none, 0, 0⟩])
 (.seq (.reg [⟨.t 3, .p (.fa 0), [.l 1], none, 0, 0⟩, ⟨.t 4, .r (.load false 1), [.t 3], none, 0, 0⟩, ⟨.t 5, .p (.un .not), [.t 4], none, 0, 0⟩, ⟨.t 6, .p (.mv), [.t 5], none, 0, 0⟩, ⟨.t 7, .p (.fa 1), [.l 1], (some (.t 6, true)), 0, 0⟩, ⟨.t 8, .r (.load true 11), [.t 7], (some (.t 6, true)), 0, 0⟩, ⟨.t 9, .p (.build [(.int .i64 0), (.int .i64 0), (.str 0 0), (.str 0 0), .nils, .nils, .nils, .nils, .nils, .nils, (.bool false)] []), [], (some (.t 6, true)), 0, 0⟩, ⟨.t 10, .call 62, [.t 8, .t 9], (some (.t 6, true)), 0, 0⟩, ⟨.t 11, .p (.un .not), [.t 10], (some (.t 6, true)), 0, 0⟩, ⟨.t 12, .p (.pick), [.t 6, .t 11, .c (.bool false)], none, 0, 0⟩, ⟨.l 2, .p (.mv), [.t 12], none, 0, 0⟩])
 .ret)),
 [.tmp (.l 2)]⟩
theorem cf89_ok : compF TP Tryz.f89 = some cf89 := by kernel_rfl
def cf90 : CF := ⟨1, (.seq (.reg [⟨.l 2, .p (.mv), [.c (.bool false)], none, 0, 0⟩])
 (.seq (.reg [⟨.t 3, .p (.mv), [.l 0], none, 0, 0⟩, ⟨.t 4, .p (.bin .neq), [.t 3, .c (.str 1 95)], none, 0, 0⟩, ⟨.t 5, .p (.mv), [.t 4], none, 0, 0⟩, ⟨.t 6, .p (.mv), [.l 0], (some (.t 5, true)), 0, 0⟩, ⟨.t 7, .p (.build [(.int .i64 0), (.str 0 0), (.int .u64 0), (.int .i64 0)] [(0, 1), (1, 1)]), [.c (.int .i64 2), .t 6], (some (.t 5, true)), 0, 0⟩, ⟨.t 8, .call 131, [.t 7], (some (.t 5, true)), 0, 0⟩, ⟨.t 9, .p (.pick), [.t 5, .t 8, .c (.bool false)], none, 0, 0⟩, ⟨.l 2, .p (.mv), [.t 9], none, 0, 0⟩])
 .ret)),
 [.tmp (.l 2)]⟩
theorem cf90_ok : compF TP Tryz.f90 = some cf90 := by kernel_rfl
def cf92 : CF := ⟨2, (.seq (.reg [⟨.l 4, .p (.mv), [.c (.bool false)], none, 0, 0⟩])
 (.seq (.seq (.reg [⟨.l 7, .p (.mv), [.l 0], none, 0, 0⟩])
 (.block 0 (.seq (.reg [⟨.t 9, .p (.bin .eql), [.l 7, .c (.str 1 45)], none, 0, 0⟩, ⟨.l 8, .p (.mv), [.t 9], none, 0, 0⟩])
 (.cond (.l 8) (.seq (.reg [⟨.t 10, .p (.mv), [.l 1], none, 0, 0⟩, ⟨.t 11, .p (.bin .eql), [.t 10, .c (.int .i64 1)], none, 0, 0⟩, ⟨.t 12, .p (.mv), [.t 11], none, 0, 0⟩, ⟨.t 13, .p (.mv), [.l 1], (some (.t 12, false)), 0, 0⟩, ⟨.t 14, .p (.bin .eql), [.t 13, .c (.int .i64 2)], (some (.t 12, false)), 0, 0⟩, ⟨.t 15, .p (.pick), [.t 12, .c (.bool true), .t 14], none, 0, 0⟩, ⟨.l 4, .p (.mv), [.t 15], none, 0, 0⟩])
 .ret)
 (.seq (.seq (.reg [⟨.t 17, .p (.bin .eql), [.l 7, .c (.str 4 1953459810)], none, 0, 0⟩, ⟨.l 16, .p (.mv), [.t 17], none, 0, 0⟩])
 (.cond (.l 16) .skip
 (.reg [⟨.t 18, .p (.bin .eql), [.l 7, .c (.str 3 7630702)], none, 0, 0⟩, ⟨.l 16, .p (.mv), [.t 18], none, 0, 0⟩])))
 (.cond (.l 16) (.seq (.reg [⟨.t 19, .p (.mv), [.l 1], none, 0, 0⟩, ⟨.t 20, .p (.bin .eql), [.t 19, .c (.int .i64 1)], none, 0, 0⟩, ⟨.l 4, .p (.mv), [.t 20], none, 0, 0⟩])
 .ret)
 (.seq (.seq (.reg [⟨.t 22, .p (.bin .eql), [.l 7, .c (.str 1 42)], none, 0, 0⟩, ⟨.l 21, .p (.mv), [.t 22], none, 0, 0⟩])
 (.cond (.l 21) .skip
 (.seq (.reg [⟨.t 23, .p (.bin .eql), [.l 7, .c (.str 3 7760228)], none, 0, 0⟩, ⟨.l 21, .p (.mv), [.t 23], none, 0, 0⟩])
 (.cond (.l 21) .skip
 (.seq (.reg [⟨.t 24, .p (.bin .eql), [.l 7, .c (.str 3 7169394)], none, 0, 0⟩, ⟨.l 21, .p (.mv), [.t 24], none, 0, 0⟩])
 (.cond (.l 21) .skip
 (.seq (.reg [⟨.t 25, .p (.bin .eql), [.l 7, .c (.str 4 1684955490)], none, 0, 0⟩, ⟨.l 21, .p (.mv), [.t 25], none, 0, 0⟩])
 (.cond (.l 21) .skip
 (.reg [⟨.t 26, .p (.bin .eql), [.l 7, .c (.str 3 6581857)], none, 0, 0⟩, ⟨.l 21, .p (.mv), [.t 26], none, 0, 0⟩])))))))))
 (.cond (.l 21) (.seq (.reg [⟨.t 27, .p (.mv), [.l 1], none, 0, 0⟩, ⟨.t 28, .p (.bin .eql), [.t 27, .c (.int .i64 2)], none, 0, 0⟩, ⟨.l 4, .p (.mv), [.t 28], none, 0, 0⟩])
 .ret)
 .skip))))))))
 (.seq (.seq (.reg [⟨.l 29, .call 132, [], none, 0, 0⟩, ⟨.l 30, .p (.mv), [.c (.int .i64 0)], none, 0, 0⟩])
 (.block 1 (.loop (.seq (.reg [⟨.l 31, .p (.bin .lss), [.l 30, .c (.int .i64 6)], none, 0, 0⟩])
 (.seq (.cond (.l 31) .skip
 (.exit 1))
 (.seq (.block 2 (.seq (.reg [⟨.t 32, .p (.ixarr true 6 3), [.l 29, .l 30], none, 0, 0⟩, ⟨.l 6, .a (.alloc [.nils, (.bool false), (.bool false)]), [], none, 0, 0⟩, ⟨.no, .e (.store 3), [.l 6, .t 32], none, 0, 0⟩])
 (.seq (.reg [⟨.t 33, .p (.fa 0), [.l 6], none, 0, 0⟩, ⟨.t 34, .r (.load false 1), [.t 33], none, 0, 0⟩, ⟨.t 35, .p (.mv), [.l 0], none, 0, 0⟩, ⟨.l 36, .call 52, [.t 34, .t 35], none, 0, 0⟩])
 (.cond (.l 36) (.seq (.reg [⟨.t 37, .p (.mv), [.l 1], none, 0, 0⟩, ⟨.t 38, .p (.bin .eql), [.t 37, .c (.int .i64 2)], none, 0, 0⟩, ⟨.l 4, .p (.mv), [.t 38], none, 0, 0⟩])
 .ret)
 .skip))))
 (.reg [⟨.t 39, .p (.bin .add), [.l 30, .c (.int .i64 1)], none, 0, 0⟩, ⟨.l 30, .p (.mv), [.t 39], none, 0, 0⟩])))))))
 (.seq (.reg [⟨.l 4, .p (.mv), [.c (.bool false)], none, 0, 0⟩])
 .ret)))),
 [.tmp (.l 4)]⟩
theorem cf92_ok : compF TP Tryz.f92 = some cf92 := by kernel_rfl
def cf93 : CF := ⟨2, (.seq (.reg [⟨.l 3, .a (.box), [.l 1], none, 0, 0⟩, ⟨.l 4, .a (.alloc [(.int .i64 0), (.int .i64 0), (.str 0 0), (.str 0 0), .nils, .nils, .nils, .nils, .nils, .nils, (.bool false)]), [], none, 0, 0⟩, ⟨.l 5, .p (.mv), [.c (.bool false)], none, 0, 0⟩])
 (.seq (.reg [⟨.t 6, .r (.load true 11), [.l 3], none, 0, 0⟩, ⟨.no, .e (.store 11), [.l 4, .t 6], none, 0, 0⟩])
 (.seq (.seq (.reg [⟨.t 7, .p (.fa 0), [.l 3], none, 0, 0⟩, ⟨.l 8, .r (.load false 1), [.t 7], none, 0, 0⟩])
 (.block 0 (.seq (.reg [⟨.t 10, .p (.bin .eql), [.l 8, .c (.int .i64 13)], none, 0, 0⟩, ⟨.l 9, .p (.mv), [.t 10], none, 0, 0⟩])
 (.cond (.l 9) (.seq (.reg [⟨.t 11, .p (.mv), [.l 0], none, 0, 0⟩, ⟨.t 12, .p (.nilc), [.t 11], none, 0, 0⟩, ⟨.t 13, .p (.fa 1), [.t 12], none, 0, 0⟩, ⟨.t 14, .r (.load false 1), [.t 13], none, 0, 0⟩, ⟨.t 15, .p (.bin .add), [.t 14, .c (.int .i64 1)], none, 0, 0⟩, ⟨.t 16, .p (.nilc), [.t 11], none, 0, 0⟩, ⟨.t 17, .p (.fa 1), [.t 16], none, 0, 0⟩, ⟨.no, .e (.store 1), [.t 17, .t 15], none, 0, 0⟩])
 (.reg [⟨.t 18, .p (.fa 6), [.l 3], none, 0, 0⟩, ⟨.t 19, .r (.load false 1), [.t 18], none, 0, 0⟩, ⟨.t 20, .p (.leng .sl), [.t 19], none, 0, 0⟩, ⟨.t 21, .p (.bin .gtr), [.t 20, .c (.int .i64 0)], none, 0, 0⟩, ⟨.t 22, .p (.mv), [.t 21], none, 0, 0⟩, ⟨.t 23, .p (.mv), [.l 0], (some (.t 22, true)), 0, 0⟩, ⟨.t 24, .p (.fa 6), [.l 3], (some (.t 22, true)), 0, 0⟩, ⟨.t 25, .r (.load false 1), [.t 24], (some (.t 22, true)), 0, 0⟩, ⟨.t 26, .call 33, [.t 23, .t 25, .c (.int .i64 (-1)), .c (.bool false)], (some (.t 22, true)), 0, 0⟩, ⟨.t 27, .p (.pick), [.t 22, .t 26, .c (.bool false)], none, 0, 0⟩, ⟨.t 28, .p (.fa 6), [.l 4], none, 0, 0⟩, ⟨.no, .e (.store 1), [.t 28, .c .nils], none, 0, 0⟩, ⟨.l 5, .p (.mv), [.t 27], none, 0, 0⟩]))
 (.seq (.reg [⟨.t 30, .p (.bin .eql), [.l 8, .c (.int .i64 15)], none, 0, 0⟩, ⟨.l 29, .p (.mv), [.t 30], none, 0, 0⟩])
 (.cond (.l 29) (.reg [⟨.t 31, .p (.fa 8), [.l 3], none, 0, 0⟩, ⟨.t 32, .r (.load false 1), [.t 31], none, 0, 0⟩, ⟨.t 33, .p (.leng .sl), [.t 32], none, 0, 0⟩, ⟨.t 34, .p (.bin .gtr), [.t 33, .c (.int .i64 0)], none, 0, 0⟩, ⟨.t 35, .p (.mv), [.t 34], none, 0, 0⟩, ⟨.t 36, .p (.fa 8), [.l 3], (some (.t 35, true)), 0, 0⟩, ⟨.t 37, .r (.load false 1), [.t 36], (some (.t 35, true)), 0, 0⟩, ⟨.t 38, .call 60, [.t 37], (some (.t 35, true)), 0, 0⟩, ⟨.t 39, .p (.pick), [.t 35, .t 38, .c (.bool false)], none, 0, 0⟩, ⟨.t 40, .p (.fa 8), [.l 4], none, 0, 0⟩, ⟨.no, .e (.store 1), [.t 40, .c .nils], none, 0, 0⟩, ⟨.l 5, .p (.mv), [.t 39], none, 0, 0⟩])
 (.seq (.reg [⟨.t 42, .p (.bin .eql), [.l 8, .c (.int .i64 16)], none, 0, 0⟩, ⟨.l 41, .p (.mv), [.t 42], none, 0, 0⟩])
 (.cond (.l 41) (.seq (.reg [⟨.t 43, .p (.fa 4), [.l 4], none, 0, 0⟩, ⟨.no, .e (.store 1), [.t 43, .c .nils], none, 0, 0⟩, ⟨.t 44, .p (.fa 6), [.l 4], none, 0, 0⟩, ⟨.no, .e (.store 1), [.t 44, .c .nils], none, 0, 0⟩])
 (.reg [⟨.t 45, .p (.fa 4), [.l 3], none, 0, 0⟩, ⟨.t 46, .r (.load false 1), [.t 45], none, 0, 0⟩, ⟨.t 47, .p (.leng .sl), [.t 46], none, 0, 0⟩, ⟨.t 48, .p (.bin .eql), [.t 47, .c (.int .i64 1)], none, 0, 0⟩, ⟨.t 49, .p (.mv), [.t 48], none, 0, 0⟩, ⟨.t 50, .p (.fa 6), [.l 3], (some (.t 49, true)), 0, 0⟩, ⟨.t 51, .r (.load false 1), [.t 50], (some (.t 49, true)), 0, 0⟩, ⟨.t 52, .p (.leng .sl), [.t 51], (some (.t 49, true)), 0, 0⟩, ⟨.t 53, .p (.bin .gtr), [.t 52, .c (.int .i64 0)], (some (.t 49, true)), 0, 0⟩, ⟨.t 54, .p (.pick), [.t 49, .t 53, .c (.bool false)], none, 0, 0⟩, ⟨.t 55, .p (.mv), [.t 54], none, 0, 0⟩, ⟨.t 56, .p (.mv), [.l 0], (some (.t 55, true)), 0, 0⟩, ⟨.t 57, .p (.fa 6), [.l 3], (some (.t 55, true)), 0, 0⟩, ⟨.t 58, .r (.load false 1), [.t 57], (some (.t 55, true)), 0, 0⟩, ⟨.t 59, .call 33, [.t 56, .t 58, .c (.int .i64 1), .c (.bool false)], (some (.t 55, true)), 0, 0⟩, ⟨.t 60, .p (.pick), [.t 55, .t 59, .c (.bool false)], none, 0, 0⟩, ⟨.l 5, .p (.mv), [.t 60], none, 0, 0⟩]))
 (.seq (.reg [⟨.t 62, .p (.bin .eql), [.l 8, .c (.int .i64 17)], none, 0, 0⟩, ⟨.l 61, .p (.mv), [.t 62], none, 0, 0⟩])
 (.cond (.l 61) (.seq (.reg [⟨.t 63, .p (.fa 4), [.l 4], none, 0, 0⟩, ⟨.no, .e (.store 1), [.t 63, .c .nils], none, 0, 0⟩, ⟨.t 64, .p (.fa 6), [.l 4], none, 0, 0⟩, ⟨.no, .e (.store 1), [.t 64, .c .nils], none, 0, 0⟩, ⟨.t 65, .p (.fa 9), [.l 4], none, 0, 0⟩, ⟨.no, .e (.store 1), [.t 65, .c .nils], none, 0, 0⟩, ⟨.t 66, .p (.fa 10), [.l 4], none, 0, 0⟩, ⟨.no, .e (.store 1), [.t 66, .c (.bool false)], none, 0, 0⟩])
 (.seq (.reg [⟨.t 67, .p (.mv), [.l 0], none, 0, 0⟩, ⟨.t 68, .p (.fa 6), [.l 3], none, 0, 0⟩, ⟨.t 69, .r (.load false 1), [.t 68], none, 0, 0⟩, ⟨.t 70, .call 33, [.t 67, .t 69, .c (.int .i64 1), .c (.bool false)], none, 0, 0⟩, ⟨.t 71, .p (.mv), [.t 70], none, 0, 0⟩, ⟨.t 72, .p (.fa 9), [.l 3], (some (.t 71, true)), 0, 0⟩, ⟨.t 73, .r (.load false 1), [.t 72], (some (.t 71, true)), 0, 0⟩, ⟨.t 74, .call 60, [.t 73], (some (.t 71, true)), 0, 0⟩, ⟨.t 75, .p (.pick), [.t 71, .t 74, .c (.bool false)], none, 0, 0⟩, ⟨.l 5, .p (.mv), [.t 75], none, 0, 0⟩])
 (.seq (.reg [⟨.t 76, .p (.fa 10), [.l 3], none, 0, 0⟩, ⟨.l 77, .r (.load false 1), [.t 76], none, 0, 0⟩])
 (.cond (.l 77) (.reg [⟨.t 78, .p (.mv), [.l 5], none, 0, 0⟩, ⟨.t 79, .p (.mv), [.t 78], none, 0, 0⟩, ⟨.t 80, .p (.fa 4), [.l 3], (some (.t 79, true)), 0, 0⟩, ⟨.t 81, .r (.load false 1), [.t 80], (some (.t 79, true)), 0, 0⟩, ⟨.t 82, .p (.leng .sl), [.t 81], (some (.t 79, true)), 0, 0⟩, ⟨.t 83, .p (.bin .eql), [.t 82, .c (.int .i64 1)], (some (.t 79, true)), 0, 0⟩, ⟨.t 84, .p (.pick), [.t 79, .t 83, .c (.bool false)], none, 0, 0⟩, ⟨.t 85, .p (.mv), [.t 84], none, 0, 0⟩, ⟨.t 86, .p (.fa 9), [.l 3], (some (.t 85, true)), 0, 0⟩, ⟨.t 87, .r (.load false 1), [.t 86], (some (.t 85, true)), 0, 0⟩, ⟨.t 88, .p (.leng .sl), [.t 87], (some (.t 85, true)), 0, 0⟩, ⟨.t 89, .p (.bin .gtr), [.t 88, .c (.int .i64 0)], (some (.t 85, true)), 0, 0⟩, ⟨.t 90, .p (.pick), [.t 85, .t 89, .c (.bool false)], none, 0, 0⟩, ⟨.l 5, .p (.mv), [.t 90], none, 0, 0⟩])
 (.reg [⟨.t 91, .p (.mv), [.l 5], none, 0, 0⟩, ⟨.t 92, .p (.mv), [.t 91], none, 0, 0⟩, ⟨.t 93, .p (.fa 4), [.l 3], (some (.t 92, true)), 0, 0⟩, ⟨.t 94, .r (.load false 1), [.t 93], (some (.t 92, true)), 0, 0⟩, ⟨.t 95, .p (.leng .sl), [.t 94], (some (.t 92, true)), 0, 0⟩, ⟨.t 96, .p (.bin .eql), [.t 95, .c (.int .i64 0)], (some (.t 92, true)), 0, 0⟩, ⟨.t 97, .p (.pick), [.t 92, .t 96, .c (.bool false)], none, 0, 0⟩, ⟨.t 98, .p (.mv), [.t 97], none, 0, 0⟩, ⟨.t 99, .p (.fa 9), [.l 3], (some (.t 98, true)), 0, 0⟩, ⟨.t 100, .r (.load false 1), [.t 99], (some (.t 98, true)), 0, 0⟩, ⟨.t 101, .p (.leng .sl), [.t 100], (some (.t 98, true)), 0, 0⟩, ⟨.t 102, .p (.bin .eql), [.t 101, .c (.int .i64 0)], (some (.t 98, true)), 0, 0⟩, ⟨.t 103, .p (.pick), [.t 98, .t 102, .c (.bool false)], none, 0, 0⟩, ⟨.t 104, .p (.mv), [.t 103], none, 0, 0⟩, ⟨.t 105, .p (.fa 6), [.l 3], (some (.t 104, true)), 0, 0⟩, ⟨.t 106, .r (.load false 1), [.t 105], (some (.t 104, true)), 0, 0⟩, ⟨.t 107, .p (.leng .sl), [.t 106], (some (.t 104, true)), 0, 0⟩, ⟨.t 108, .p (.bin .gtr), [.t 107, .c (.int .i64 0)], (some (.t 104, true)), 0, 0⟩, ⟨.t 109, .p (.pick), [.t 104, .t 108, .c (.bool false)], none, 0, 0⟩, ⟨.l 5, .p (.mv), [.t 109], none, 0, 0⟩])))))
 (.seq (.reg [⟨.t 111, .p (.bin .eql), [.l 8, .c (.int .i64 18)], none, 0, 0⟩, ⟨.l 110, .p (.mv), [.t 111], none, 0, 0⟩])
 (.cond (.l 110) (.seq (.reg [⟨.t 112, .p (.fa 8), [.l 4], none, 0, 0⟩, ⟨.no, .e (.store 1), [.t 112, .c .nils], none, 0, 0⟩, ⟨.t 113, .p (.fa 6), [.l 4], none, 0, 0⟩, ⟨.no, .e (.store 1), [.t 113, .c .nils], none, 0, 0⟩, ⟨.t 114, .p (.fa 7), [.l 4], none, 0, 0⟩, ⟨.no, .e (.store 1), [.t 114, .c .nils], none, 0, 0⟩, ⟨.t 115, .p (.fa 9), [.l 4], none, 0, 0⟩, ⟨.no, .e (.store 1), [.t 115, .c .nils], none, 0, 0⟩, ⟨.t 116, .p (.fa 10), [.l 4], none, 0, 0⟩, ⟨.no, .e (.store 1), [.t 116, .c (.bool false)], none, 0, 0⟩])
 (.seq (.reg [⟨.t 117, .p (.fa 8), [.l 3], none, 0, 0⟩, ⟨.t 118, .r (.load false 1), [.t 117], none, 0, 0⟩, ⟨.t 119, .p (.leng .sl), [.t 118], none, 0, 0⟩, ⟨.t 120, .p (.bin .gtr), [.t 119, .c (.int .i64 0)], none, 0, 0⟩, ⟨.t 121, .p (.mv), [.t 120], none, 0, 0⟩, ⟨.t 122, .p (.fa 8), [.l 3], (some (.t 121, true)), 0, 0⟩, ⟨.t 123, .r (.load false 1), [.t 122], (some (.t 121, true)), 0, 0⟩, ⟨.t 124, .call 60, [.t 123], (some (.t 121, true)), 0, 0⟩, ⟨.t 125, .p (.pick), [.t 121, .t 124, .c (.bool false)], none, 0, 0⟩, ⟨.t 126, .p (.mv), [.t 125], none, 0, 0⟩, ⟨.t 127, .p (.mv), [.l 0], (some (.t 126, true)), 0, 0⟩, ⟨.t 128, .p (.fa 6), [.l 3], (some (.t 126, true)), 0, 0⟩, ⟨.t 129, .r (.load false 1), [.t 128], (some (.t 126, true)), 0, 0⟩, ⟨.t 130, .call 33, [.t 127, .t 129, .c (.int .i64 1), .c (.bool false)], (some (.t 126, true)), 0, 0⟩, ⟨.t 131, .p (.pick), [.t 126, .t 130, .c (.bool false)], none, 0, 0⟩, ⟨.t 132, .p (.mv), [.t 131], none, 0, 0⟩, ⟨.t 133, .p (.mv), [.l 0], (some (.t 132, true)), 0, 0⟩, ⟨.t 134, .p (.fa 7), [.l 3], (some (.t 132, true)), 0, 0⟩, ⟨.t 135, .r (.load false 1), [.t 134], (some (.t 132, true)), 0, 0⟩, ⟨.t 136, .call 33, [.t 133, .t 135, .c (.int .i64 2), .c (.bool false)], (some (.t 132, true)), 0, 0⟩, ⟨.t 137, .p (.pick), [.t 132, .t 136, .c (.bool false)], none, 0, 0⟩, ⟨.t 138, .p (.mv), [.t 137], none, 0, 0⟩, ⟨.t 139, .p (.fa 9), [.l 3], (some (.t 138, true)), 0, 0⟩, ⟨.t 140, .r (.load false 1), [.t 139], (some (.t 138, true)), 0, 0⟩, ⟨.t 141, .call 60, [.t 140], (some (.t 138, true)), 0, 0⟩, ⟨.t 142, .p (.pick), [.t 138, .t 141, .c (.bool false)], none, 0, 0⟩, ⟨.l 5, .p (.mv), [.t 142], none, 0, 0⟩])
 (.seq (.reg [⟨.t 143, .p (.mv), [.l 5], none, 0, 0⟩, ⟨.t 144, .p (.mv), [.t 143], none, 0, 0⟩, ⟨.t 145, .p (.fa 10), [.l 3], (some (.t 144, true)), 0, 0⟩, ⟨.t 146, .r (.load false 1), [.t 145], (some (.t 144, true)), 0, 0⟩, ⟨.t 147, .p (.fa 9), [.l 3], (some (.t 144, true)), 0, 0⟩, ⟨.t 148, .r (.load false 1), [.t 147], (some (.t 144, true)), 0, 0⟩, ⟨.t 149, .p (.leng .sl), [.t 148], (some (.t 144, true)), 0, 0⟩, ⟨.t 150, .p (.bin .gtr), [.t 149, .c (.int .i64 0)], (some (.t 144, true)), 0, 0⟩, ⟨.t 151, .p (.eqd .b false), [.t 146, .t 150], (some (.t 144, true)), 0, 0⟩, ⟨.t 152, .p (.pick), [.t 144, .t 151, .c (.bool false)], none, 0, 0⟩, ⟨.t 153, .p (.mv), [.t 152], none, 0, 0⟩, ⟨.t 154, .p (.fa 10), [.l 3], (some (.t 153, true)), 0, 0⟩, ⟨.t 155, .r (.load false 1), [.t 154], (some (.t 153, true)), 0, 0⟩, ⟨.t 156, .p (.mv), [.t 155], (some (.t 153, true)), 0, 0⟩, ⟨.t 157, .p (.fa 7), [.l 3], (some (.t 156, false)), 0, 0⟩, ⟨.t 158, .r (.load false 1), [.t 157], (some (.t 156, false)), 0, 0⟩, ⟨.t 159, .p (.leng .sl), [.t 158], (some (.t 156, false)), 0, 0⟩, ⟨.t 160, .p (.bin .gtr), [.t 159, .c (.int .i64 0)], (some (.t 156, false)), 0, 0⟩, ⟨.t 161, .p (.pick), [.t 156, .c (.bool true), .t 160], (some (.t 153, true)), 0, 0⟩, ⟨.t 162, .p (.pick), [.t 153, .t 161, .c (.bool false)], none, 0, 0⟩, ⟨.l 5, .p (.mv), [.t 162], none, 0, 0⟩])
 (.reg [⟨.t 163, .p (.mv), [.l 5], none, 0, 0⟩, ⟨.t 164, .p (.mv), [.t 163], none, 0, 0⟩, ⟨.t 165, .p (.fa 7), [.l 3], (some (.t 164, true)), 0, 0⟩, ⟨.t 166, .r (.load false 1), [.t 165], (some (.t 164, true)), 0, 0⟩, ⟨.t 167, .call 133, [.t 166, .c (.func (.func 134) [] [])], (some (.t 164, true)), 0, 0⟩, ⟨.t 168, .p (.un .not), [.t 167], (some (.t 164, true)), 0, 0⟩, ⟨.t 169, .p (.pick), [.t 164, .t 168, .c (.bool false)], none, 0, 0⟩, ⟨.l 5, .p (.mv), [.t 169], none, 0, 0⟩]))))
 .skip))))))))))))
 (.seq (.reg [⟨.t 170, .r (.load true 11), [.l 4], none, 0, 0⟩, ⟨.t 171, .p (.mv), [.l 5], none, 0, 0⟩, ⟨.no, .e (.store 11), [.l 4, .t 170], none, 0, 0⟩, ⟨.l 5, .p (.mv), [.t 171], none, 0, 0⟩])
 .ret)))),
 [.cell (.l 4) true 11, .tmp (.l 5)]⟩
theorem cf93_ok : compF TP Tryz.f93 = some cf93 := by kernel_rfl
def cf94 : CF := ⟨3, (.seq (.reg [⟨.l 6, .p (.mv), [.c (.bool false)], none, 0, 0⟩])
 (.seq (.reg [⟨.t 7, .p (.mv), [.l 0], none, 0, 0⟩, ⟨.t 8, .p (.mv), [.l 1], none, 0, 0⟩, ⟨.t 9, .p (.mv), [.l 2], none, 0, 0⟩, ⟨.t 10, .call 136, [.t 7, .t 8, .t 9], none, 0, 0⟩, ⟨.l 6, .p (.mv), [.t 10], none, 0, 0⟩])
 .ret)),
 [.tmp (.l 6)]⟩
theorem cf94_ok : compF TP Tryz.f94 = some cf94 := by kernel_rfl
def cf95 : CF := ⟨3, (.seq (.reg [⟨.l 6, .p (.mv), [.c (.bool false)], none, 0, 0⟩])
 (.seq (.reg [⟨.t 7, .p (.mv), [.l 0], none, 0, 0⟩, ⟨.t 8, .p (.mv), [.l 1], none, 0, 0⟩, ⟨.t 9, .p (.mv), [.l 2], none, 0, 0⟩, ⟨.t 10, .call 137, [.t 7, .t 8, .t 9], none, 0, 0⟩, ⟨.l 6, .p (.mv), [.t 10], none, 0, 0⟩])
 .ret)),
 [.tmp (.l 6)]⟩
theorem cf95_ok : compF TP Tryz.f95 = some cf95 := by kernel_rfl
def cf97 : CF := ⟨3, (.seq (.reg [⟨.l 6, .p (.mv), [.c (.bool false)], none, 0, 0⟩])
 (.seq (.reg [⟨.t 7, .p (.mv), [.l 0], none, 0, 0⟩, ⟨.t 8, .p (.mv), [.l 1], none, 0, 0⟩, ⟨.t 9, .p (.mv), [.l 2], none, 0, 0⟩, ⟨.t 10, .call 138, [.t 7, .t 8, .t 9], none, 0, 0⟩, ⟨.l 6, .p (.mv), [.t 10], none, 0, 0⟩])
 .ret)),
 [.tmp (.l 6)]⟩
theorem cf97_ok : compF TP Tryz.f97 = some cf97 := by kernel_rfl
def cf99 : CF := ⟨3, (.seq (.reg [⟨.l 6, .p (.mv), [.c (.bool false)], none, 0, 0⟩])
 (.seq (.reg [⟨.t 7, .p (.mv), [.l 0], none, 0, 0⟩, ⟨.t 8, .p (.mv), [.l 1], none, 0, 0⟩, ⟨.t 9, .p (.mv), [.l 2], none, 0, 0⟩, ⟨.t 10, .call 141, [.t 7, .t 8, .t 9], none, 0, 0⟩, ⟨.l 6, .p (.mv), [.t 10], none, 0, 0⟩])
 .ret)),
 [.tmp (.l 6)]⟩
theorem cf99_ok : compF TP Tryz.f99 = some cf99 := by kernel_rfl
def cf101 : CF := ⟨2, (.seq (.reg [⟨.l 3, .p (.mv), [.c (.bool false)], none, 0, 0⟩])
 (.seq (.reg [⟨.t 4, .p (.mv), [.l 0], none, 0, 0⟩, ⟨.t 5, .p (.mkf (.func 103) 0), [.l 1], none, 0, 0⟩, ⟨.t 6, .call 102, [.t 4, .t 5], none, 0, 0⟩, ⟨.t 7, .p (.un .not), [.t 6], none, 0, 0⟩, ⟨.l 3, .p (.mv), [.t 7], none, 0, 0⟩])
 .ret)),
 [.tmp (.l 3)]⟩
theorem cf101_ok : compF TP Tryz.f101 = some cf101 := by kernel_rfl
def cf102 : CF := ⟨2, (.seq (.reg [⟨.l 4, .p (.mv), [.c (.bool false)], none, 0, 0⟩])
 (.seq (.reg [⟨.t 5, .p (.mv), [.l 0], none, 0, 0⟩, ⟨.t 6, .p (.mv), [.l 1], none, 0, 0⟩, ⟨.t 7, .call 142, [.t 5, .t 6], none, 0, 0⟩, ⟨.t 8, .p (.bin .geq), [.t 7, .c (.int .i64 0)], none, 0, 0⟩, ⟨.l 4, .p (.mv), [.t 8], none, 0, 0⟩])
 .ret)),
 [.tmp (.l 4)]⟩
theorem cf102_ok : compF TP Tryz.f102 = some cf102 := by kernel_rfl
def cf103 : CF := ⟨2, (.seq (.reg [⟨.l 2, .a (.box), [.l 0], none, 0, 0⟩, ⟨.l 3, .p (.mv), [.c (.bool false)], none, 0, 0⟩])
 (.seq (.reg [⟨.t 4, .r (.load false 1), [.l 1], none, 0, 0⟩, ⟨.t 5, .r (.load true 11), [.l 2], none, 0, 0⟩, ⟨.t 6, .callv, [.t 4, .t 5], none, 0, 0⟩, ⟨.t 7, .p (.un .not), [.t 6], none, 0, 0⟩, ⟨.l 3, .p (.mv), [.t 7], none, 0, 0⟩])
 .ret)),
 [.tmp (.l 3)]⟩
theorem cf103_ok : compF TP Tryz.f103 = some cf103 := by kernel_rfl
def cf104 : CF := ⟨2, (.seq (.reg [⟨.l 3, .p (.mv), [.c (.bool false)], none, 0, 0⟩])
 (.seq (.reg [⟨.t 4, .p (.mv), [.l 0], none, 0, 0⟩, ⟨.t 5, .p (.mkf (.func 105) 0), [.l 1], none, 0, 0⟩, ⟨.t 6, .call 88, [.t 4, .t 5], none, 0, 0⟩, ⟨.t 7, .p (.un .not), [.t 6], none, 0, 0⟩, ⟨.l 3, .p (.mv), [.t 7], none, 0, 0⟩])
 .ret)),
 [.tmp (.l 3)]⟩
theorem cf104_ok : compF TP Tryz.f104 = some cf104 := by kernel_rfl
def cf105 : CF := ⟨2, (.seq (.reg [⟨.l 2, .a (.box), [.l 0], none, 0, 0⟩, ⟨.l 3, .p (.mv), [.c (.bool false)], none, 0, 0⟩])
 (.seq (.reg [⟨.t 4, .p (.fa 0), [.l 2], none, 0, 0⟩, ⟨.t 5, .r (.load false 1), [.t 4], none, 0, 0⟩, ⟨.t 6, .p (.mv), [.t 5], none, 0, 0⟩, ⟨.t 7, .r (.load false 1), [.l 1], (some (.t 6, true)), 0, 0⟩, ⟨.t 8, .p (.fa 1), [.l 2], (some (.t 6, true)), 0, 0⟩, ⟨.t 9, .r (.load true 11), [.t 8], (some (.t 6, true)), 0, 0⟩, ⟨.t 10, .callv, [.t 7, .t 9], (some (.t 6, true)), 0, 0⟩, ⟨.t 11, .p (.un .not), [.t 10], (some (.t 6, true)), 0, 0⟩, ⟨.t 12, .p (.pick), [.t 6, .t 11, .c (.bool false)], none, 0, 0⟩, ⟨.t 13, .p (.mv), [.t 12], none, 0, 0⟩, ⟨.t 14, .r (.load false 1), [.l 1], (some (.t 13, false)), 0, 0⟩, ⟨.t 15, .p (.fa 12), [.l 2], (some (.t 13, false)), 0, 0⟩, ⟨.t 16, .r (.load true 11), [.t 15], (some (.t 13, false)), 0, 0⟩, ⟨.t 17, .callv, [.t 14, .t 16], (some (.t 13, false)), 0, 0⟩, ⟨.t 18, .p (.un .not), [.t 17], (some (.t 13, false)), 0, 0⟩, ⟨.t 19, .p (.pick), [.t 13, .c (.bool true), .t 18], none, 0, 0⟩, ⟨.l 3, .p (.mv), [.t 19], none, 0, 0⟩])
 .ret)),
 [.tmp (.l 3)]⟩
theorem cf105_ok : compF TP Tryz.f105 = some cf105 := by kernel_rfl
def cf106 : CF := ⟨2, (.seq (.reg [⟨.l 3, .p (.mv), [.c (.bool false)], none, 0, 0⟩])
 (.seq (.reg [⟨.t 4, .p (.mv), [.l 0], none, 0, 0⟩, ⟨.t 5, .r (.load false 1), [.l 1], none, 0, 0⟩, ⟨.t 6, .call 34, [.t 4, .t 5], none, 0, 0⟩, ⟨.l 3, .p (.mv), [.t 6], none, 0, 0⟩])
 .ret)),
 [.tmp (.l 3)]⟩
theorem cf106_ok : compF TP Tryz.f106 = some cf106 := by kernel_rfl
def cf108 : CF := ⟨0, (.seq (.reg [⟨.l 0, .p (.mv), [.c .nilm], none, 0, 0⟩])
 (.seq (.reg [⟨.t 3, .a (.mkm false), [], none, 0, 0⟩, ⟨.l 1, .a (.alloc [.nilm]), [], none, 0, 0⟩, ⟨.no, .e (.store 1), [.l 1, .t 3], none, 0, 0⟩])
 (.seq (.reg [⟨.t 4, .p (.mkf (.func 144) 0), [.l 1], none, 0, 0⟩, ⟨.l 2, .p (.mv), [.t 4], none, 0, 0⟩])
 (.seq (.reg [⟨.t 5, .p (.mv), [.l 2], none, 0, 0⟩, ⟨.t 6, .callv, [.t 5, .c (.int .i64 1), .c (.str 211 2643788049237875746027353956421256579877879755938887535316951059759369592555717365339016263365027618501812524394041916456107630935882219539062654111784106688242807265108499006909579367619711043370541396788490473410751723451644814999429197375349848118121197291676110575868848611747558760119856467310971821053183838999261785706908127509286587510957382674167142064579141726276195335717799002842036464030059972223758517794073400569462703278420382076657222687305171158147755303688062608438613618907131909108626281)], none, 0, 0⟩])
 (.seq (.reg [⟨.t 7, .p (.mv), [.l 2], none, 0, 0⟩, ⟨.t 8, .callv, [.t 7, .c (.int .i64 2), .c (.str 130 2309567611550875277204994674161353649923820728840937906004022259955814384767430420713629540289955323346488897252243258610309243515909333067562535498886036825999362825657067591809416156955820597497462137324242345962628091659841284438982893644934511546577333868034346565100900555615209792057877126969041213629687155)], none, 0, 0⟩])
 (.seq (.reg [⟨.t 9, .p (.mv), [.l 2], none, 0, 0⟩, ⟨.t 10, .callv, [.t 9, .c (.int .i64 3), .c (.str 326 23432797193871199407333496422669012367299329756827031624297655228348896489652091995020903033051514005582240654107251283804193553897754980763464707855962905347494948165397241680072134641162834970075957098854109284145689297344697482720779276625903820634785204952066235328051174553452503356106246011490484894671724025188345757335091502307861111567946691652232448241457647053841496573471555992490563340102516511656375177173333262957809226356687276663106690246514868571292902185291786131212997716888408723455673227194122100111222777000526364432920838613382261280238070156172435011051979694305378415251427278940642021762430988511956155483968407454369334577920402672521885831115680086389877854951673720855015018618345684868760042338146632436122985681635754182370565935330268791689787050389619)], none, 0, 0⟩])
 (.seq (.reg [⟨.t 11, .p (.mv), [.l 2], none, 0, 0⟩, ⟨.t 12, .callv, [.t 11, .c (.int .i64 4), .c (.str 15 265770033204623512752161048958627937)], none, 0, 0⟩])
 (.seq (.reg [⟨.t 13, .r (.load false 1), [.l 1], none, 0, 0⟩, ⟨.l 0, .p (.mv), [.t 13], none, 0, 0⟩])
 .ret)))))))),
 [.tmp (.l 0)]⟩
theorem cf108_ok : compF TP Tryz.f108 = some cf108 := by kernel_rfl
def cf110 : CF := ⟨3, (.seq (.reg [⟨.l 4, .a (.box), [.l 1], none, 0, 0⟩])
 (.seq (.reg [⟨.t 10, .p (.fa 0), [.l 4], none, 0, 0⟩, ⟨.l 11, .r (.load false 1), [.t 10], none, 0, 0⟩])
 (.block 0 (.seq (.seq (.reg [⟨.t 21, .p (.bin .eql), [.l 11, .c (.int .i64 5)], none, 0, 0⟩, ⟨.l 20, .p (.mv), [.t 21], none, 0, 0⟩])
 (.cond (.l 20) .skip
 (.reg [⟨.t 22, .p (.bin .eql), [.l 11, .c (.int .i64 7)], none, 0, 0⟩, ⟨.l 20, .p (.mv), [.t 22], none, 0, 0⟩])))
 (.cond (.l 20) (.seq (.reg [⟨.t 23, .p (.fa 4), [.l 4], none, 0, 0⟩, ⟨.l 24, .r (.load false 1), [.t 23], none, 0, 0⟩, ⟨.l 25, .p (.leng .sl), [.l 24], none, 0, 0⟩, ⟨.l 26, .p (.mv), [.c (.int .i64 0)], none, 0, 0⟩])
 (.block 1 (.loop (.seq (.reg [⟨.l 27, .p (.bin .lss), [.l 26, .l 25], none, 0, 0⟩])
 (.seq (.cond (.l 27) .skip
 (.exit 1))
 (.seq (.block 2 (.seq (.reg [⟨.t 28, .p (.ixsl 11), [.l 24, .l 26], none, 0, 0⟩, ⟨.t 29, .r (.load true 11), [.t 28], none, 0, 0⟩, ⟨.l 7, .a (.alloc [(.int .i64 0), (.int .i64 0), (.str 0 0), (.str 0 0), .nils, .nils, .nils, .nils, .nils, .nils, (.bool false)]), [], none, 0, 0⟩, ⟨.no, .e (.store 11), [.l 7, .t 29], none, 0, 0⟩])
 (.reg [⟨.t 30, .p (.mv), [.l 0], none, 0, 0⟩, ⟨.t 31, .r (.load true 11), [.l 7], none, 0, 0⟩, ⟨.t 32, .p (.mv), [.l 2], none, 0, 0⟩, ⟨.t 33, .call 110, [.t 30, .t 31, .t 32], none, 0, 0⟩])))
 (.reg [⟨.t 34, .p (.bin .add), [.l 26, .c (.int .i64 1)], none, 0, 0⟩, ⟨.l 26, .p (.mv), [.t 34], none, 0, 0⟩])))))))
 (.seq (.reg [⟨.t 36, .p (.bin .eql), [.l 11, .c (.int .i64 8)], none, 0, 0⟩, ⟨.l 35, .p (.mv), [.t 36], none, 0, 0⟩])
 (.cond (.l 35) (.seq (.reg [⟨.t 37, .p (.fa 5), [.l 4], none, 0, 0⟩, ⟨.l 38, .r (.load false 1), [.t 37], none, 0, 0⟩, ⟨.l 39, .p (.leng .sl), [.l 38], none, 0, 0⟩, ⟨.l 40, .p (.mv), [.c (.int .i64 0)], none, 0, 0⟩])
 (.block 3 (.loop (.seq (.reg [⟨.l 41, .p (.bin .lss), [.l 40, .l 39], none, 0, 0⟩])
 (.seq (.cond (.l 41) .skip
 (.exit 3))
 (.seq (.block 4 (.seq (.reg [⟨.t 42, .p (.mv), [.l 40], none, 0, 0⟩, ⟨.t 43, .p (.ixsl 27), [.l 38, .l 40], none, 0, 0⟩, ⟨.t 44, .r (.load true 27), [.t 43], none, 0, 0⟩, ⟨.l 9, .a (.alloc [(.int .i64 0), (.str 0 0), (.int .i64 0), (.int .i64 0), (.str 0 0), (.str 0 0), .nils, .nils, .nils, .nils, .nils, .nils, (.bool false), (.int .i64 0), (.int .i64 0), (.str 0 0), (.str 0 0), .nils, .nils, .nils, .nils, .nils, .nils, (.bool false), (.bool false), (.bool false), (.bool false)]), [], none, 0, 0⟩, ⟨.l 8, .p (.mv), [.t 42], none, 0, 0⟩, ⟨.no, .e (.store 27), [.l 9, .t 44], none, 0, 0⟩])
 (.reg [⟨.t 45, .p (.mv), [.l 0], none, 0, 0⟩, ⟨.t 46, .r (.load true 27), [.l 9], none, 0, 0⟩, ⟨.t 47, .p (.mv), [.l 2], none, 0, 0⟩, ⟨.t 48, .p (.mv), [.l 8], none, 0, 0⟩, ⟨.t 49, .p (.fa 5), [.l 4], none, 0, 0⟩, ⟨.t 50, .r (.load false 1), [.t 49], none, 0, 0⟩, ⟨.t 51, .p (.leng .sl), [.t 50], none, 0, 0⟩, ⟨.t 52, .p (.bin .sub), [.t 51, .c (.int .i64 1)], none, 0, 0⟩, ⟨.t 53, .p (.bin .eql), [.t 48, .t 52], none, 0, 0⟩, ⟨.t 54, .call 146, [.t 45, .t 46, .t 47, .t 53], none, 0, 0⟩])))
 (.reg [⟨.t 55, .p (.bin .add), [.l 40, .c (.int .i64 1)], none, 0, 0⟩, ⟨.l 40, .p (.mv), [.t 55], none, 0, 0⟩])))))))
 (.seq (.seq (.reg [⟨.t 12, .r (.load true 11), [.l 4], none, 0, 0⟩, ⟨.t 13, .call 147, [.t 12], none, 0, 0⟩, ⟨.l 14, .p (.un .not), [.t 13], none, 0, 0⟩])
 (.cond (.l 14) (.reg [⟨.t 15, .p (.mv), [.l 0], none, 0, 0⟩, ⟨.t 16, .call 65, [.t 15, .c (.int .i64 9), .c (.str 0 0), .c (.int .i64 0)], none, 0, 0⟩])
 .skip))
 (.reg [⟨.t 17, .r (.load true 11), [.l 4], none, 0, 0⟩, ⟨.t 18, .p (.mv), [.l 2], none, 0, 0⟩, ⟨.t 19, .call 148, [.t 17, .t 18], none, 0, 0⟩]))))))))),
 []⟩
theorem cf110_ok : compF TP Tryz.f110 = some cf110 := by kernel_rfl
def cf111 : CF := ⟨3, (.seq (.reg [⟨.l 4, .a (.box), [.l 1], none, 0, 0⟩])
 (.block 0 (.seq (.reg [⟨.t 21, .p (.fa 0), [.l 4], none, 0, 0⟩, ⟨.t 22, .r (.load false 1), [.t 21], none, 0, 0⟩, ⟨.t 23, .p (.bin .eql), [.t 22, .c (.int .i64 3)], none, 0, 0⟩, ⟨.l 20, .p (.mv), [.t 23], none, 0, 0⟩])
 (.cond (.l 20) (.reg [⟨.t 24, .p (.mv), [.l 0], none, 0, 0⟩, ⟨.t 25, .r (.load true 11), [.l 4], none, 0, 0⟩, ⟨.t 26, .p (.mv), [.l 2], none, 0, 0⟩, ⟨.t 27, .call 149, [.t 24, .t 25, .t 26], none, 0, 0⟩])
 (.seq (.reg [⟨.t 29, .p (.fa 0), [.l 4], none, 0, 0⟩, ⟨.t 30, .r (.load false 1), [.t 29], none, 0, 0⟩, ⟨.t 31, .p (.bin .eql), [.t 30, .c (.int .i64 4)], none, 0, 0⟩, ⟨.l 28, .p (.mv), [.t 31], none, 0, 0⟩])
 (.cond (.l 28) (.reg [⟨.t 32, .p (.mv), [.l 0], none, 0, 0⟩, ⟨.t 33, .call 65, [.t 32, .c (.int .i64 8), .c (.str 0 0), .c (.int .i64 0)], none, 0, 0⟩])
 (.seq (.reg [⟨.t 35, .r (.load true 11), [.l 4], none, 0, 0⟩, ⟨.t 36, .call 150, [.t 35], none, 0, 0⟩, ⟨.t 37, .p (.un .not), [.t 36], none, 0, 0⟩, ⟨.l 34, .p (.mv), [.t 37], none, 0, 0⟩])
 (.cond (.l 34) (.reg [⟨.t 38, .p (.mv), [.l 0], none, 0, 0⟩, ⟨.t 39, .call 65, [.t 38, .c (.int .i64 10), .c (.str 0 0), .c (.int .i64 0)], none, 0, 0⟩])
 (.seq (.reg [⟨.t 8, .p (.fa 4), [.l 4], none, 0, 0⟩, ⟨.l 9, .r (.load false 1), [.t 8], none, 0, 0⟩, ⟨.l 10, .p (.leng .sl), [.l 9], none, 0, 0⟩, ⟨.l 11, .p (.mv), [.c (.int .i64 0)], none, 0, 0⟩])
 (.block 1 (.loop (.seq (.reg [⟨.l 12, .p (.bin .lss), [.l 11, .l 10], none, 0, 0⟩])
 (.seq (.cond (.l 12) .skip
 (.exit 1))
 (.seq (.block 2 (.seq (.reg [⟨.t 13, .p (.ixsl 11), [.l 9, .l 11], none, 0, 0⟩, ⟨.t 14, .r (.load true 11), [.t 13], none, 0, 0⟩, ⟨.l 7, .a (.alloc [(.int .i64 0), (.int .i64 0), (.str 0 0), (.str 0 0), .nils, .nils, .nils, .nils, .nils, .nils, (.bool false)]), [], none, 0, 0⟩, ⟨.no, .e (.store 11), [.l 7, .t 14], none, 0, 0⟩])
 (.reg [⟨.t 15, .p (.mv), [.l 0], none, 0, 0⟩, ⟨.t 16, .r (.load true 11), [.l 7], none, 0, 0⟩, ⟨.t 17, .p (.mv), [.l 2], none, 0, 0⟩, ⟨.t 18, .call 111, [.t 15, .t 16, .t 17], none, 0, 0⟩])))
 (.reg [⟨.t 19, .p (.bin .add), [.l 11, .c (.int .i64 1)], none, 0, 0⟩, ⟨.l 11, .p (.mv), [.t 19], none, 0, 0⟩]))))))))))))))),
 []⟩
theorem cf111_ok : compF TP Tryz.f111 = some cf111 := by kernel_rfl
def cf112 : CF := ⟨3, (.seq (.reg [⟨.t 9, .p (.mv), [.l 2], none, 0, 0⟩, ⟨.t 10, .call 151, [.t 9], none, 0, 0⟩, ⟨.l 2, .p (.mv), [.t 10], none, 0, 0⟩])
 (.seq (.reg [⟨.l 11, .p (.mv), [.l 1], none, 0, 0⟩, ⟨.l 12, .p (.leng .sl), [.l 11], none, 0, 0⟩, ⟨.l 13, .p (.mv), [.c (.int .i64 0)], none, 0, 0⟩])
 (.block 0 (.loop (.seq (.reg [⟨.l 14, .p (.bin .lss), [.l 13, .l 12], none, 0, 0⟩])
 (.seq (.cond (.l 14) .skip
 (.exit 0))
 (.seq (.block 1 (.seq (.reg [⟨.t 15, .p (.ixsl 23), [.l 11, .l 13], none, 0, 0⟩, ⟨.t 16, .r (.load true 23), [.t 15], none, 0, 0⟩, ⟨.l 7, .a (.alloc [(.bool false), (.int .i64 0), (.int .i64 0), (.str 0 0), (.str 0 0), .nils, .nils, .nils, .nils, .nils, .nils, (.bool false), (.int .i64 0), (.int .i64 0), (.str 0 0), (.str 0 0), .nils, .nils, .nils, .nils, .nils, .nils, (.bool false)]), [], none, 0, 0⟩, ⟨.no, .e (.store 23), [.l 7, .t 16], none, 0, 0⟩])
 (.seq (.seq (.reg [⟨.t 17, .p (.fa 0), [.l 7], none, 0, 0⟩, ⟨.t 18, .r (.load false 1), [.t 17], none, 0, 0⟩, ⟨.l 19, .p (.un .not), [.t 18], none, 0, 0⟩])
 (.cond (.l 19) (.seq (.reg [⟨.t 20, .p (.mv), [.l 0], none, 0, 0⟩, ⟨.t 21, .p (.fa 12), [.l 7], none, 0, 0⟩, ⟨.t 22, .r (.load true 11), [.t 21], none, 0, 0⟩, ⟨.t 23, .p (.mv), [.l 2], none, 0, 0⟩, ⟨.t 24, .call 152, [.t 20, .t 22, .t 23], none, 0, 0⟩])
 (.exit 1))
 .skip))
 (.seq (.reg [⟨.t 25, .p (.mv), [.l 2], none, 0, 0⟩, ⟨.t 26, .call 151, [.t 25], none, 0, 0⟩, ⟨.l 8, .p (.mv), [.t 26], none, 0, 0⟩])
 (.seq (.reg [⟨.t 27, .p (.mv), [.l 0], none, 0, 0⟩, ⟨.t 28, .p (.fa 1), [.l 7], none, 0, 0⟩, ⟨.t 29, .r (.load true 11), [.t 28], none, 0, 0⟩, ⟨.t 30, .p (.mv), [.l 8], none, 0, 0⟩, ⟨.t 31, .call 110, [.t 27, .t 29, .t 30], none, 0, 0⟩])
 (.seq (.reg [⟨.t 32, .p (.mv), [.l 0], none, 0, 0⟩, ⟨.t 33, .p (.fa 12), [.l 7], none, 0, 0⟩, ⟨.t 34, .r (.load true 11), [.t 33], none, 0, 0⟩, ⟨.t 35, .p (.mv), [.l 2], none, 0, 0⟩, ⟨.t 36, .call 152, [.t 32, .t 34, .t 35], none, 0, 0⟩])
 (.reg [⟨.t 37, .p (.mv), [.l 8], none, 0, 0⟩, ⟨.l 2, .p (.mv), [.t 37], none, 0, 0⟩])))))))
 (.reg [⟨.t 38, .p (.bin .add), [.l 13, .c (.int .i64 1)], none, 0, 0⟩, ⟨.l 13, .p (.mv), [.t 38], none, 0, 0⟩])))))))),
 []⟩
theorem cf112_ok : compF TP Tryz.f112 = some cf112 := by kernel_rfl
def cf115 : CF := ⟨1, (.seq (.reg [⟨.l 2, .p (.mv), [.c (.bool false)], none, 0, 0⟩])
 (.seq (.reg [⟨.t 3, .p (.mv), [.l 0], none, 0, 0⟩, ⟨.t 4, .call 73, [.t 3], none, 0, 0⟩, ⟨.t 5, .p (.mv), [.t 4], none, 0, 0⟩, ⟨.t 6, .p (.mv), [.l 0], (some (.t 5, false)), 0, 0⟩, ⟨.t 7, .call 71, [.t 6], (some (.t 5, false)), 0, 0⟩, ⟨.t 8, .p (.pick), [.t 5, .c (.bool true), .t 7], none, 0, 0⟩, ⟨.t 9, .p (.mv), [.t 8], none, 0, 0⟩, ⟨.t 10, .p (.mv), [.l 0], (some (.t 9, false)), 0, 0⟩, ⟨.t 11, .p (.bin .eql), [.t 10, .c (.int .u8 95)], (some (.t 9, false)), 0, 0⟩, ⟨.t 12, .p (.pick), [.t 9, .c (.bool true), .t 11], none, 0, 0⟩, ⟨.t 13, .p (.mv), [.t 12], none, 0, 0⟩, ⟨.t 14, .p (.mv), [.l 0], (some (.t 13, false)), 0, 0⟩, ⟨.t 15, .p (.bin .eql), [.t 14, .c (.int .u8 64)], (some (.t 13, false)), 0, 0⟩, ⟨.t 16, .p (.pick), [.t 13, .c (.bool true), .t 15], none, 0, 0⟩, ⟨.l 2, .p (.mv), [.t 16], none, 0, 0⟩])
 .ret)),
 [.tmp (.l 2)]⟩
theorem cf115_ok : compF TP Tryz.f115 = some cf115 := by kernel_rfl
def cf120 : CF := ⟨2, (.seq (.reg [⟨.l 4, .a (.alloc [(.int .i64 0), (.int .i64 0), (.str 0 0), (.str 0 0), .nils, .nils, .nils, .nils, .nils, .nils, (.bool false)]), [], none, 0, 0⟩])
 (.seq (.reg [⟨.t 11, .call 132, [], none, 0, 0⟩, ⟨.l 5, .a (.alloc [.nils, (.bool false), (.bool false), .nils, (.bool false), (.bool false), .nils, (.bool false), (.bool false), .nils, (.bool false), (.bool false), .nils, (.bool false), (.bool false), .nils, (.bool false), (.bool false)]), [], none, 0, 0⟩, ⟨.no, .e (.store 18), [.l 5, .t 11], none, 0, 0⟩])
 (.seq (.seq (.reg [⟨.t 12, .p (.mv), [.l 1], none, 0, 0⟩, ⟨.l 13, .p (.bin .eql), [.t 12, .c (.int .i64 6)], none, 0, 0⟩])
 (.cond (.l 13) (.seq (.reg [⟨.t 14, .p (.mv), [.l 0], none, 0, 0⟩, ⟨.t 15, .call 158, [.t 14], none, 0, 0⟩, ⟨.l 6, .a (.alloc [(.int .i64 0), (.int .i64 0), (.str 0 0), (.str 0 0), .nils, .nils, .nils, .nils, .nils, .nils, (.bool false)]), [], none, 0, 0⟩, ⟨.no, .e (.store 11), [.l 6, .t 15], none, 0, 0⟩])
 (.seq (.block 0 (.loop (.seq (.seq (.reg [⟨.t 16, .p (.mv), [.l 0], none, 0, 0⟩, ⟨.t 17, .a (.bslice [(.str 0 0)] 5 1 [(0, 1), (1, 1), (2, 1), (3, 1), (4, 1)]), [.c (.str 1 42), .c (.str 3 7760228), .c (.str 3 7169394), .c (.str 4 1684955490), .c (.str 3 6581857)], none, 0, 0⟩, ⟨.l 18, .call 25, [.t 16, .t 17], none, 0, 0⟩])
 (.cond (.l 18) .skip
 (.exit 0)))
 (.block 1 (.seq (.reg [⟨.t 19, .p (.mv), [.l 0], none, 0, 0⟩, ⟨.t 20, .call 51, [.t 19, .c (.int .i64 0)], none, 0, 0⟩, ⟨.t 21, .p (.field false 1 1), [.t 20], none, 0, 0⟩, ⟨.l 7, .p (.mv), [.t 21], none, 0, 0⟩])
 (.seq (.reg [⟨.t 22, .p (.mv), [.l 0], none, 0, 0⟩, ⟨.t 23, .p (.nilc), [.t 22], none, 0, 0⟩, ⟨.t 24, .p (.fa 1), [.t 23], none, 0, 0⟩, ⟨.t 25, .r (.load false 1), [.t 24], none, 0, 0⟩, ⟨.t 26, .p (.bin .add), [.t 25, .c (.int .i64 1)], none, 0, 0⟩, ⟨.t 27, .p (.nilc), [.t 22], none, 0, 0⟩, ⟨.t 28, .p (.fa 1), [.t 27], none, 0, 0⟩, ⟨.no, .e (.store 1), [.t 28, .t 26], none, 0, 0⟩])
 (.regD [⟨.t 29, .p (.mv), [.l 7], none, 0, 1⟩, ⟨.t 30, .r (.load true 11), [.l 6], none, 0, 1⟩, ⟨.t 31, .p (.mv), [.l 0], none, 0, 0⟩, ⟨.t 32, .call 158, [.t 31], none, 0, 1⟩, ⟨.t 33, .a (.bslice [(.int .i64 0), (.int .i64 0), (.str 0 0), (.str 0 0), .nils, .nils, .nils, .nils, .nils, .nils, (.bool false)] 2 11 [(0, 11), (11, 11)]), [.t 30, .t 32], none, 1, 1⟩, ⟨.t 34, .p (.build [(.int .i64 0), (.int .i64 0), (.str 0 0), (.str 0 0), .nils, .nils, .nils, .nils, .nils, .nils, (.bool false)] [(0, 1), (2, 1), (4, 1)]), [.c (.int .i64 9), .t 29, .t 33], none, 1, 1⟩, ⟨.no, .e (.store 11), [.l 6, .t 34], none, 1, 2⟩])))))))
 (.seq (.reg [⟨.t 35, .r (.load true 11), [.l 6], none, 0, 0⟩, ⟨.no, .e (.store 11), [.l 4, .t 35], none, 0, 0⟩])
 .ret)))
 .skip))
 (.seq (.reg [⟨.t 36, .p (.mv), [.l 0], none, 0, 0⟩, ⟨.t 37, .p (.mv), [.l 1], none, 0, 0⟩, ⟨.t 38, .p (.bin .add), [.t 37, .c (.int .i64 1)], none, 0, 0⟩, ⟨.t 39, .call 120, [.t 36, .t 38], none, 0, 0⟩, ⟨.l 8, .a (.alloc [(.int .i64 0), (.int .i64 0), (.str 0 0), (.str 0 0), .nils, .nils, .nils, .nils, .nils, .nils, (.bool false)]), [], none, 0, 0⟩, ⟨.no, .e (.store 11), [.l 8, .t 39], none, 0, 0⟩])
 (.seq (.block 2 (.loop (.seq (.seq (.reg [⟨.t 40, .p (.mv), [.l 0], none, 0, 0⟩, ⟨.t 41, .p (.mv), [.l 1], none, 0, 0⟩, ⟨.t 42, .p (.ixarrp 6 3), [.l 5, .t 41], none, 0, 0⟩, ⟨.t 43, .p (.fa 0), [.t 42], none, 0, 0⟩, ⟨.t 44, .r (.load false 1), [.t 43], none, 0, 0⟩, ⟨.l 45, .call 25, [.t 40, .t 44], none, 0, 0⟩])
 (.cond (.l 45) .skip
 (.exit 2)))
 (.block 3 (.seq (.reg [⟨.t 46, .p (.mv), [.l 0], none, 0, 0⟩, ⟨.t 47, .call 51, [.t 46, .c (.int .i64 0)], none, 0, 0⟩, ⟨.t 48, .p (.field false 1 1), [.t 47], none, 0, 0⟩, ⟨.l 9, .p (.mv), [.t 48], none, 0, 0⟩])
 (.seq (.reg [⟨.t 49, .p (.mv), [.l 0], none, 0, 0⟩, ⟨.t 50, .p (.nilc), [.t 49], none, 0, 0⟩, ⟨.t 51, .p (.fa 1), [.t 50], none, 0, 0⟩, ⟨.t 52, .r (.load false 1), [.t 51], none, 0, 0⟩, ⟨.t 53, .p (.bin .add), [.t 52, .c (.int .i64 1)], none, 0, 0⟩, ⟨.t 54, .p (.nilc), [.t 49], none, 0, 0⟩, ⟨.t 55, .p (.fa 1), [.t 54], none, 0, 0⟩, ⟨.no, .e (.store 1), [.t 55, .t 53], none, 0, 0⟩])
 (.seq (.reg [⟨.t 56, .p (.mv), [.l 1], none, 0, 0⟩, ⟨.t 57, .p (.bin .add), [.t 56, .c (.int .i64 1)], none, 0, 0⟩, ⟨.l 10, .p (.mv), [.t 57], none, 0, 0⟩])
 (.seq (.seq (.reg [⟨.t 58, .p (.mv), [.l 1], none, 0, 0⟩, ⟨.t 59, .p (.ixarrp 6 3), [.l 5, .t 58], none, 0, 0⟩, ⟨.t 60, .p (.fa 1), [.t 59], none, 0, 0⟩, ⟨.l 61, .r (.load false 1), [.t 60], none, 0, 0⟩])
 (.cond (.l 61) (.reg [⟨.t 62, .p (.mv), [.l 1], none, 0, 0⟩, ⟨.l 10, .p (.mv), [.t 62], none, 0, 0⟩])
 .skip))
 (.seq (.regD [⟨.t 63, .p (.mv), [.l 9], none, 0, 1⟩, ⟨.t 64, .r (.load true 11), [.l 8], none, 0, 1⟩, ⟨.t 65, .p (.mv), [.l 0], none, 0, 0⟩, ⟨.t 66, .p (.mv), [.l 10], none, 0, 0⟩, ⟨.t 67, .call 120, [.t 65, .t 66], none, 0, 1⟩, ⟨.t 68, .a (.bslice [(.int .i64 0), (.int .i64 0), (.str 0 0), (.str 0 0), .nils, .nils, .nils, .nils, .nils, .nils, (.bool false)] 2 11 [(0, 11), (11, 11)]), [.t 64, .t 67], none, 1, 1⟩, ⟨.t 69, .p (.build [(.int .i64 0), (.int .i64 0), (.str 0 0), (.str 0 0), .nils, .nils, .nils, .nils, .nils, .nils, (.bool false)] [(0, 1), (2, 1), (4, 1)]), [.c (.int .i64 9), .t 63, .t 68], none, 1, 1⟩, ⟨.no, .e (.store 11), [.l 8, .t 69], none, 1, 2⟩])
 (.seq (.reg [⟨.t 70, .p (.mv), [.l 1], none, 0, 0⟩, ⟨.t 71, .p (.ixarrp 6 3), [.l 5, .t 70], none, 0, 0⟩, ⟨.t 72, .p (.fa 2), [.t 71], none, 0, 0⟩, ⟨.l 73, .r (.load false 1), [.t 72], none, 0, 0⟩])
 (.cond (.l 73) (.exit 2)
 .skip)))))))))))
 (.seq (.reg [⟨.t 74, .r (.load true 11), [.l 8], none, 0, 0⟩, ⟨.no, .e (.store 11), [.l 4, .t 74], none, 0, 0⟩])
 .ret)))))),
 [.cell (.l 4) true 11]⟩
theorem cf120_ok : compF TP Tryz.f120 = some cf120 := by kernel_rfl
def cf121 : CF := ⟨1, (.seq (.reg [⟨.l 2, .a (.alloc [(.int .i64 0), (.int .i64 0), (.str 0 0), (.str 0 0), .nils, .nils, .nils, .nils, .nils, .nils, (.bool false)]), [], none, 0, 0⟩])
 (.seq (.seq (.reg [⟨.t 5, .p (.mv), [.l 0], none, 0, 0⟩, ⟨.t 6, .call 51, [.t 5, .c (.int .i64 0)], none, 0, 0⟩, ⟨.l 3, .a (.alloc [(.int .i64 0), (.str 0 0), (.int .u64 0), (.int .i64 0)]), [], none, 0, 0⟩, ⟨.no, .e (.store 4), [.l 3, .t 6], none, 0, 0⟩])
 (.seq (.reg [⟨.t 7, .p (.fa 0), [.l 3], none, 0, 0⟩, ⟨.l 8, .r (.load false 1), [.t 7], none, 0, 0⟩])
 (.block 0 (.seq (.reg [⟨.t 10, .p (.bin .eql), [.l 8, .c (.int .i64 3)], none, 0, 0⟩, ⟨.l 9, .p (.mv), [.t 10], none, 0, 0⟩])
 (.cond (.l 9) (.seq (.reg [⟨.t 11, .p (.mv), [.l 0], none, 0, 0⟩, ⟨.t 12, .call 22, [.t 11, .c (.int .u64 0), .c (.int .u64 9223372036854775807)], none, 0, 0⟩, ⟨.t 13, .p (.build [(.int .i64 0), (.int .i64 0), (.str 0 0), (.str 0 0), .nils, .nils, .nils, .nils, .nils, .nils, (.bool false)] [(0, 1), (1, 1)]), [.c (.int .i64 1), .t 12], none, 0, 0⟩, ⟨.no, .e (.store 11), [.l 2, .t 13], none, 0, 0⟩])
 .ret)
 (.seq (.reg [⟨.t 15, .p (.bin .eql), [.l 8, .c (.int .i64 1)], none, 0, 0⟩, ⟨.l 14, .p (.mv), [.t 15], none, 0, 0⟩])
 (.cond (.l 14) (.seq (.reg [⟨.t 16, .p (.mv), [.l 0], none, 0, 0⟩, ⟨.t 17, .call 20, [.t 16, .c .nils], none, 0, 0⟩, ⟨.t 18, .p (.build [(.int .i64 0), (.int .i64 0), (.str 0 0), (.str 0 0), .nils, .nils, .nils, .nils, .nils, .nils, (.bool false)] [(0, 1), (2, 1)]), [.c (.int .i64 2), .t 17], none, 0, 0⟩, ⟨.no, .e (.store 11), [.l 2, .t 18], none, 0, 0⟩])
 .ret)
 (.seq (.reg [⟨.t 20, .p (.bin .eql), [.l 8, .c (.int .i64 2)], none, 0, 0⟩, ⟨.l 19, .p (.mv), [.t 20], none, 0, 0⟩])
 (.cond (.l 19) (.seq (.reg [⟨.t 21, .p (.mv), [.l 0], none, 0, 0⟩, ⟨.t 22, .p (.nilc), [.t 21], none, 0, 0⟩, ⟨.t 23, .p (.fa 1), [.t 22], none, 0, 0⟩, ⟨.t 24, .r (.load false 1), [.t 23], none, 0, 0⟩, ⟨.t 25, .p (.bin .add), [.t 24, .c (.int .i64 1)], none, 0, 0⟩, ⟨.t 26, .p (.nilc), [.t 21], none, 0, 0⟩, ⟨.t 27, .p (.fa 1), [.t 26], none, 0, 0⟩, ⟨.no, .e (.store 1), [.t 27, .t 25], none, 0, 0⟩])
 (.seq (.reg [⟨.t 28, .p (.fa 1), [.l 3], none, 0, 0⟩, ⟨.t 29, .r (.load false 1), [.t 28], none, 0, 0⟩, ⟨.t 30, .call 127, [.t 29], none, 0, 0⟩, ⟨.no, .e (.store 11), [.l 2, .t 30], none, 0, 0⟩])
 .ret))
 (.seq (.seq (.reg [⟨.t 32, .p (.bin .eql), [.l 8, .c (.int .i64 6)], none, 0, 0⟩, ⟨.l 31, .p (.mv), [.t 32], none, 0, 0⟩])
 (.cond (.l 31) .skip
 (.reg [⟨.t 33, .p (.bin .eql), [.l 8, .c (.int .i64 5)], none, 0, 0⟩, ⟨.l 31, .p (.mv), [.t 33], none, 0, 0⟩])))
 (.cond (.l 31) (.seq (.regD [⟨.t 34, .p (.mv), [.l 0], none, 0, 0⟩, ⟨.t 35, .p (.nilc), [.t 34], none, 0, 0⟩, ⟨.t 36, .p (.fa 3), [.t 35], none, 0, 0⟩, ⟨.t 37, .r (.load false 1), [.t 36], none, 0, 0⟩, ⟨.t 38, .p (.fa 1), [.l 3], none, 0, 0⟩, ⟨.t 39, .r (.load false 1), [.t 38], none, 0, 0⟩, ⟨.t 40, .r (.lookup (.one .s) false .nilf), [.t 37, .t 39], none, 0, 0⟩, ⟨.l 4, .p (.mv), [.t 40], none, 0, 0⟩])
 (.seq (.reg [⟨.t 41, .p (.mv), [.l 4], none, 0, 0⟩, ⟨.l 42, .p (.eqd .f true), [.t 41, .c .nilf], none, 0, 0⟩])
 (.cond (.l 42) (.seq (.reg [⟨.t 43, .p (.mv), [.l 4], none, 0, 0⟩, ⟨.t 44, .callv, [.t 43], none, 0, 0⟩, ⟨.no, .e (.store 11), [.l 2, .t 44], none, 0, 0⟩])
 .ret)
 .skip)))
 .skip)))))))))))
 (.seq (.reg [⟨.t 45, .p (.mv), [.l 0], none, 0, 0⟩, ⟨.t 46, .call 17, [.t 45, .c (.int .i64 0), .c (.int .i64 101)], none, 0, 0⟩])
 (.seq (.reg [⟨.t 47, .p (.build [(.int .i64 0), (.int .i64 0), (.str 0 0), (.str 0 0), .nils, .nils, .nils, .nils, .nils, .nils, (.bool false)] []), [], none, 0, 0⟩, ⟨.no, .e (.store 11), [.l 2, .t 47], none, 0, 0⟩])
 .ret)))),
 [.cell (.l 2) true 11]⟩
theorem cf121_ok : compF TP Tryz.f121 = some cf121 := by kernel_rfl
def cf125 : CF := ⟨3, (.seq (.reg [⟨.l 6, .p (.mv), [.c .nils], none, 0, 0⟩])
 (.seq (.reg [⟨.t 8, .p (.mv), [.l 2], none, 0, 0⟩, ⟨.t 9, .callv, [.t 8], none, 0, 0⟩, ⟨.t 10, .a (.bslice [(.bool false), (.int .i64 0), (.int .i64 0), (.str 0 0), (.str 0 0), .nils, .nils, .nils, .nils, .nils, .nils, (.bool false), (.int .i64 0), (.int .i64 0), (.str 0 0), (.str 0 0), .nils, .nils, .nils, .nils, .nils, .nils, (.bool false)] 1 23 [(0, 23)]), [.t 9], none, 0, 0⟩, ⟨.l 7, .p (.mv), [.t 10], none, 0, 0⟩])
 (.seq (.block 0 (.loop (.seq (.seq (.reg [⟨.t 11, .p (.mv), [.l 0], none, 0, 0⟩, ⟨.t 12, .p (.mv), [.l 1], none, 0, 0⟩, ⟨.l 13, .call 54, [.t 11, .t 12], none, 0, 0⟩])
 (.cond (.l 13) .skip
 (.exit 0)))
 (.block 1 (.reg [⟨.t 14, .p (.mv), [.l 7], none, 0, 0⟩, ⟨.t 15, .p (.mv), [.l 2], none, 0, 0⟩, ⟨.t 16, .callv, [.t 15], none, 0, 0⟩, ⟨.t 17, .a (.bslice [(.bool false), (.int .i64 0), (.int .i64 0), (.str 0 0), (.str 0 0), .nils, .nils, .nils, .nils, .nils, .nils, (.bool false), (.int .i64 0), (.int .i64 0), (.str 0 0), (.str 0 0), .nils, .nils, .nils, .nils, .nils, .nils, (.bool false)] 1 23 [(0, 23)]), [.t 16], none, 0, 0⟩, ⟨.t 18, .e (.append 23 408 none), [.t 14, .t 17], none, 0, 0⟩, ⟨.l 7, .p (.mv), [.t 18], none, 0, 0⟩])))))
 (.seq (.reg [⟨.t 19, .p (.mv), [.l 7], none, 0, 0⟩, ⟨.l 6, .p (.mv), [.t 19], none, 0, 0⟩])
 .ret)))),
 [.tmp (.l 6)]⟩
theorem cf125_ok : compF TP Tryz.f125 = some cf125 := by kernel_rfl
def cf126 : CF := ⟨1, (.seq (.reg [⟨.l 1, .a (.alloc [(.bool false), (.int .i64 0), (.int .i64 0), (.str 0 0), (.str 0 0), .nils, .nils, .nils, .nils, .nils, .nils, (.bool false), (.int .i64 0), (.int .i64 0), (.str 0 0), (.str 0 0), .nils, .nils, .nils, .nils, .nils, .nils, (.bool false)]), [], none, 0, 0⟩])
 (.seq (.reg [⟨.t 3, .r (.load false 1), [.l 0], none, 0, 0⟩, ⟨.t 4, .call 77, [.t 3], none, 0, 0⟩, ⟨.l 2, .a (.alloc [(.int .i64 0), (.int .i64 0), (.str 0 0), (.str 0 0), .nils, .nils, .nils, .nils, .nils, .nils, (.bool false)]), [], none, 0, 0⟩, ⟨.no, .e (.store 11), [.l 2, .t 4], none, 0, 0⟩])
 (.seq (.seq (.reg [⟨.t 5, .r (.load false 1), [.l 0], none, 0, 0⟩, ⟨.l 6, .call 54, [.t 5, .c (.str 1 61)], none, 0, 0⟩])
 (.cond (.l 6) (.seq (.regD [⟨.t 7, .r (.load true 11), [.l 2], none, 0, 1⟩, ⟨.t 8, .r (.load false 1), [.l 0], none, 0, 0⟩, ⟨.t 9, .call 77, [.t 8], none, 0, 1⟩, ⟨.t 10, .p (.build [(.bool false), (.int .i64 0), (.int .i64 0), (.str 0 0), (.str 0 0), .nils, .nils, .nils, .nils, .nils, .nils, (.bool false), (.int .i64 0), (.int .i64 0), (.str 0 0), (.str 0 0), .nils, .nils, .nils, .nils, .nils, .nils, (.bool false)] [(0, 1), (1, 11), (12, 11)]), [.c (.bool true), .t 7, .t 9], none, 1, 1⟩, ⟨.no, .e (.store 23), [.l 1, .t 10], none, 1, 2⟩])
 .ret)
 .skip))
 (.seq (.reg [⟨.t 11, .r (.load true 11), [.l 2], none, 0, 0⟩, ⟨.t 12, .p (.build [(.bool false), (.int .i64 0), (.int .i64 0), (.str 0 0), (.str 0 0), .nils, .nils, .nils, .nils, .nils, .nils, (.bool false), (.int .i64 0), (.int .i64 0), (.str 0 0), (.str 0 0), .nils, .nils, .nils, .nils, .nils, .nils, (.bool false)] [(12, 11)]), [.t 11], none, 0, 0⟩, ⟨.no, .e (.store 23), [.l 1, .t 12], none, 0, 0⟩])
 .ret)))),
 [.cell (.l 1) true 23]⟩
theorem cf126_ok : compF TP Tryz.f126 = some cf126 := by kernel_rfl
def cf127 : CF := ⟨1, (.seq (.reg [⟨.l 2, .a (.alloc [(.int .i64 0), (.int .i64 0), (.str 0 0), (.str 0 0), .nils, .nils, .nils, .nils, .nils, .nils, (.bool false)]), [], none, 0, 0⟩])
 (.seq (.seq (.reg [⟨.t 3, .p (.mv), [.l 0], none, 0, 0⟩, ⟨.l 4, .p (.bin .eql), [.t 3, .c (.str 1 95)], none, 0, 0⟩])
 (.cond (.l 4) (.seq (.reg [⟨.t 5, .p (.build [(.int .i64 0), (.int .i64 0), (.str 0 0), (.str 0 0), .nils, .nils, .nils, .nils, .nils, .nils, (.bool false)] [(0, 1)]), [.c (.int .i64 4)], none, 0, 0⟩, ⟨.no, .e (.store 11), [.l 2, .t 5], none, 0, 0⟩])
 .ret)
 .skip))
 (.seq (.reg [⟨.t 6, .p (.mv), [.l 0], none, 0, 0⟩, ⟨.t 7, .p (.build [(.int .i64 0), (.int .i64 0), (.str 0 0), (.str 0 0), .nils, .nils, .nils, .nils, .nils, .nils, (.bool false)] [(0, 1), (2, 1)]), [.c (.int .i64 3), .t 6], none, 0, 0⟩, ⟨.no, .e (.store 11), [.l 2, .t 7], none, 0, 0⟩])
 .ret))),
 [.cell (.l 2) true 11]⟩
theorem cf127_ok : compF TP Tryz.f127 = some cf127 := by kernel_rfl
def cf128 : CF := ⟨3, (.seq (.reg [⟨.l 6, .p (.mv), [.c .nils], none, 0, 0⟩])
 (.seq (.reg [⟨.t 8, .p (.mv), [.l 2], none, 0, 0⟩, ⟨.t 9, .callv, [.t 8], none, 0, 0⟩, ⟨.t 10, .a (.bslice [.nils] 1 1 [(0, 1)]), [.t 9], none, 0, 0⟩, ⟨.l 7, .p (.mv), [.t 10], none, 0, 0⟩])
 (.seq (.block 0 (.loop (.seq (.seq (.reg [⟨.t 11, .p (.mv), [.l 0], none, 0, 0⟩, ⟨.t 12, .p (.mv), [.l 1], none, 0, 0⟩, ⟨.l 13, .call 54, [.t 11, .t 12], none, 0, 0⟩])
 (.cond (.l 13) .skip
 (.exit 0)))
 (.block 1 (.reg [⟨.t 14, .p (.mv), [.l 7], none, 0, 0⟩, ⟨.t 15, .p (.mv), [.l 2], none, 0, 0⟩, ⟨.t 16, .callv, [.t 15], none, 0, 0⟩, ⟨.t 17, .a (.bslice [.nils] 1 1 [(0, 1)]), [.t 16], none, 0, 0⟩, ⟨.t 18, .e (.append 1 24 none), [.t 14, .t 17], none, 0, 0⟩, ⟨.l 7, .p (.mv), [.t 18], none, 0, 0⟩])))))
 (.seq (.reg [⟨.t 19, .p (.mv), [.l 7], none, 0, 0⟩, ⟨.l 6, .p (.mv), [.t 19], none, 0, 0⟩])
 .ret)))),
 [.tmp (.l 6)]⟩
theorem cf128_ok : compF TP Tryz.f128 = some cf128 := by kernel_rfl
def cf129 : CF := ⟨1, (.seq (.reg [⟨.l 1, .p (.mv), [.c .nils], none, 0, 0⟩])
 (.seq (.reg [⟨.t 2, .r (.load false 1), [.l 0], none, 0, 0⟩, ⟨.t 3, .r (.load false 1), [.l 0], none, 0, 0⟩, ⟨.t 4, .p (.mkf (.func 77) 1), [.t 3], none, 0, 0⟩, ⟨.t 5, .call 78, [.t 2, .c (.str 1 44), .t 4], none, 0, 0⟩, ⟨.l 1, .p (.mv), [.t 5], none, 0, 0⟩])
 .ret)),
 [.tmp (.l 1)]⟩
theorem cf129_ok : compF TP Tryz.f129 = some cf129 := by kernel_rfl
def cf130 : CF := ⟨2, (.seq (.reg [⟨.l 4, .p (.mv), [.c (.int .i64 0)], none, 0, 0⟩])
 (.seq (.seq (.reg [⟨.t 6, .p (.mv), [.l 0], none, 0, 0⟩, ⟨.l 7, .p (.leng .sl), [.t 6], none, 0, 0⟩, ⟨.l 8, .p (.mv), [.c (.int .i64 0)], none, 0, 0⟩])
 (.block 0 (.loop (.seq (.reg [⟨.l 9, .p (.bin .lss), [.l 8, .l 7], none, 0, 0⟩])
 (.seq (.cond (.l 9) .skip
 (.exit 0))
 (.seq (.block 1 (.seq (.reg [⟨.t 10, .p (.mv), [.l 8], none, 0, 0⟩, ⟨.l 5, .p (.mv), [.t 10], none, 0, 0⟩])
 (.seq (.reg [⟨.t 11, .p (.mv), [.l 1], none, 0, 0⟩, ⟨.t 12, .p (.mv), [.l 0], none, 0, 0⟩, ⟨.t 13, .p (.mv), [.l 5], none, 0, 0⟩, ⟨.t 14, .p (.ixsl 23), [.t 12, .t 13], none, 0, 0⟩, ⟨.t 15, .r (.load true 23), [.t 14], none, 0, 0⟩, ⟨.l 16, .callv, [.t 11, .t 15], none, 0, 0⟩])
 (.cond (.l 16) (.seq (.reg [⟨.t 17, .p (.mv), [.l 5], none, 0, 0⟩, ⟨.l 4, .p (.mv), [.t 17], none, 0, 0⟩])
 .ret)
 .skip))))
 (.reg [⟨.t 18, .p (.bin .add), [.l 8, .c (.int .i64 1)], none, 0, 0⟩, ⟨.l 8, .p (.mv), [.t 18], none, 0, 0⟩])))))))
 (.seq (.reg [⟨.l 4, .p (.mv), [.c (.int .i64 (-1))], none, 0, 0⟩])
 .ret))),
 [.tmp (.l 4)]⟩
theorem cf130_ok : compF TP Tryz.f130 = some cf130 := by kernel_rfl
def cf131 : CF := ⟨1, (.seq (.reg [⟨.l 1, .a (.box), [.l 0], none, 0, 0⟩, ⟨.l 2, .p (.mv), [.c (.bool false)], none, 0, 0⟩])
 (.seq (.seq (.reg [⟨.t 4, .p (.fa 0), [.l 1], none, 0, 0⟩, ⟨.t 5, .r (.load false 1), [.t 4], none, 0, 0⟩, ⟨.l 6, .p (.bin .eql), [.t 5, .c (.int .i64 3)], none, 0, 0⟩])
 (.cond (.l 6) (.seq (.reg [⟨.t 7, .p (.fa 1), [.l 1], none, 0, 0⟩, ⟨.t 8, .r (.load false 1), [.t 7], none, 0, 0⟩, ⟨.t 9, .p (.bin .eql), [.t 8, .c (.str 0 0)], none, 0, 0⟩, ⟨.t 10, .p (.mv), [.t 9], none, 0, 0⟩, ⟨.t 11, .p (.fa 2), [.l 1], (some (.t 10, true)), 0, 0⟩, ⟨.t 12, .r (.load false 1), [.t 11], (some (.t 10, true)), 0, 0⟩, ⟨.t 13, .p (.bin .leq), [.t 12, .c (.int .u64 9223372036854775808)], (some (.t 10, true)), 0, 0⟩, ⟨.t 14, .p (.pick), [.t 10, .t 13, .c (.bool false)], none, 0, 0⟩, ⟨.l 2, .p (.mv), [.t 14], none, 0, 0⟩])
 .ret)
 .skip))
 (.seq (.seq (.reg [⟨.t 15, .p (.fa 2), [.l 1], none, 0, 0⟩, ⟨.t 16, .r (.load false 1), [.t 15], none, 0, 0⟩, ⟨.l 17, .p (.bin .neq), [.t 16, .c (.int .u64 0)], none, 0, 0⟩])
 (.cond (.l 17) (.seq (.reg [⟨.l 2, .p (.mv), [.c (.bool false)], none, 0, 0⟩])
 .ret)
 .skip))
 (.seq (.seq (.reg [⟨.t 18, .p (.fa 0), [.l 1], none, 0, 0⟩, ⟨.l 19, .r (.load false 1), [.t 18], none, 0, 0⟩])
 (.block 0 (.seq (.reg [⟨.t 21, .p (.bin .eql), [.l 19, .c (.int .i64 1)], none, 0, 0⟩, ⟨.l 20, .p (.mv), [.t 21], none, 0, 0⟩])
 (.cond (.l 20) (.seq (.reg [⟨.t 22, .p (.fa 1), [.l 1], none, 0, 0⟩, ⟨.t 23, .r (.load false 1), [.t 22], none, 0, 0⟩, ⟨.t 24, .call 56, [.t 23], none, 0, 0⟩, ⟨.t 25, .p (.mv), [.t 24], none, 0, 0⟩, ⟨.t 26, .p (.fa 1), [.l 1], (some (.t 25, true)), 0, 0⟩, ⟨.t 27, .r (.load false 1), [.t 26], (some (.t 25, true)), 0, 0⟩, ⟨.t 28, .call 57, [.t 27], (some (.t 25, true)), 0, 0⟩, ⟨.t 29, .p (.un .not), [.t 28], (some (.t 25, true)), 0, 0⟩, ⟨.t 30, .p (.pick), [.t 25, .t 29, .c (.bool false)], none, 0, 0⟩, ⟨.l 2, .p (.mv), [.t 30], none, 0, 0⟩])
 .ret)
 (.seq (.reg [⟨.t 32, .p (.bin .eql), [.l 19, .c (.int .i64 2)], none, 0, 0⟩, ⟨.l 31, .p (.mv), [.t 32], none, 0, 0⟩])
 (.cond (.l 31) (.seq (.reg [⟨.t 33, .p (.fa 1), [.l 1], none, 0, 0⟩, ⟨.t 34, .r (.load false 1), [.t 33], none, 0, 0⟩, ⟨.t 35, .p (.build [(.str 0 0), (.int .i64 0), .nilm] [(0, 1)]), [.t 34], none, 0, 0⟩, ⟨.l 3, .a (.alloc [(.str 0 0), (.int .i64 0), .nilm]), [], none, 0, 0⟩, ⟨.no, .e (.store 3), [.l 3, .t 35], none, 0, 0⟩])
 (.seq (.regD [⟨.t 36, .p (.fa 1), [.l 1], none, 0, 0⟩, ⟨.t 37, .r (.load false 1), [.t 36], none, 0, 0⟩, ⟨.t 38, .p (.bin .neq), [.t 37, .c (.str 0 0)], none, 0, 0⟩, ⟨.t 39, .p (.mv), [.t 38], none, 0, 0⟩, ⟨.t 40, .p (.fa 1), [.l 1], (some (.t 39, true)), 0, 0⟩, ⟨.t 41, .r (.load false 1), [.t 40], (some (.t 39, true)), 0, 0⟩, ⟨.t 42, .p (.leng .str), [.t 41], (some (.t 39, true)), 0, 0⟩, ⟨.t 43, .p (.bin .leq), [.t 42, .c (.int .i64 32)], (some (.t 39, true)), 0, 0⟩, ⟨.t 44, .p (.pick), [.t 39, .t 43, .c (.bool false)], none, 0, 0⟩, ⟨.t 45, .p (.mv), [.t 44], none, 0, 0⟩, ⟨.t 47, .p (.fa 1), [.l 1], (some (.t 45, true)), 0, 1⟩, ⟨.t 48, .r (.load false 1), [.t 47], (some (.t 45, true)), 0, 1⟩, ⟨.t 46, .call 69, [.l 3, .c (.func (.func 115) [] [])], (some (.t 45, true)), 0, 1⟩, ⟨.t 49, .p (.bin .eql), [.t 46, .t 48], (some (.t 45, true)), 1, 1⟩, ⟨.t 50, .p (.pick), [.t 45, .t 49, .c (.bool false)], none, 1, 1⟩, ⟨.t 51, .p (.mv), [.t 50], none, 1, 1⟩, ⟨.t 52, .p (.fa 1), [.l 1], (some (.t 51, true)), 1, 1⟩, ⟨.t 53, .r (.load false 1), [.t 52], (some (.t 51, true)), 1, 1⟩, ⟨.t 54, .p (.ixstr), [.t 53, .c (.int .i64 0)], (some (.t 51, true)), 1, 1⟩, ⟨.t 55, .p (.bin .eql), [.t 54, .c (.int .u8 95)], (some (.t 51, true)), 1, 1⟩, ⟨.t 56, .p (.mv), [.t 55], (some (.t 51, true)), 1, 1⟩, ⟨.t 57, .p (.fa 1), [.l 1], (some (.t 56, false)), 1, 1⟩, ⟨.t 58, .r (.load false 1), [.t 57], (some (.t 56, false)), 1, 1⟩, ⟨.t 59, .p (.ixstr), [.t 58, .c (.int .i64 0)], (some (.t 56, false)), 1, 1⟩, ⟨.t 60, .p (.bin .geq), [.t 59, .c (.int .u8 65)], (some (.t 56, false)), 1, 1⟩, ⟨.t 61, .p (.mv), [.t 60], (some (.t 56, false)), 1, 1⟩, ⟨.t 62, .p (.fa 1), [.l 1], (some (.t 61, true)), 1, 1⟩, ⟨.t 63, .r (.load false 1), [.t 62], (some (.t 61, true)), 1, 1⟩, ⟨.t 64, .p (.ixstr), [.t 63, .c (.int .i64 0)], (some (.t 61, true)), 1, 1⟩, ⟨.t 65, .p (.bin .leq), [.t 64, .c (.int .u8 90)], (some (.t 61, true)), 1, 1⟩, ⟨.t 66, .p (.pick), [.t 61, .t 65, .c (.bool false)], (some (.t 56, false)), 1, 1⟩, ⟨.t 67, .p (.pick), [.t 56, .c (.bool true), .t 66], (some (.t 51, true)), 1, 1⟩, ⟨.t 68, .p (.pick), [.t 51, .t 67, .c (.bool false)], none, 1, 1⟩, ⟨.l 2, .p (.mv), [.t 68], none, 1, 1⟩])
 .ret))
 (.seq (.reg [⟨.t 70, .p (.bin .eql), [.l 19, .c (.int .i64 4)], none, 0, 0⟩, ⟨.l 69, .p (.mv), [.t 70], none, 0, 0⟩])
 (.cond (.l 69) (.seq (.reg [⟨.t 71, .p (.fa 1), [.l 1], none, 0, 0⟩, ⟨.t 72, .r (.load false 1), [.t 71], none, 0, 0⟩, ⟨.t 73, .call 159, [.t 72, .c (.func (.func 160) [] [])], none, 0, 0⟩, ⟨.t 74, .p (.un .not), [.t 73], none, 0, 0⟩, ⟨.l 2, .p (.mv), [.t 74], none, 0, 0⟩])
 .ret)
 (.seq (.reg [⟨.t 76, .p (.bin .eql), [.l 19, .c (.int .i64 5)], none, 0, 0⟩, ⟨.l 75, .p (.mv), [.t 76], none, 0, 0⟩])
 (.cond (.l 75) (.seq (.reg [⟨.t 77, .p (.fa 1), [.l 1], none, 0, 0⟩, ⟨.t 78, .r (.load false 1), [.t 77], none, 0, 0⟩, ⟨.t 79, .call 57, [.t 78], none, 0, 0⟩, ⟨.l 2, .p (.mv), [.t 79], none, 0, 0⟩])
 .ret)
 (.seq (.reg [⟨.t 81, .p (.bin .eql), [.l 19, .c (.int .i64 6)], none, 0, 0⟩, ⟨.l 80, .p (.mv), [.t 81], none, 0, 0⟩])
 (.cond (.l 80) (.seq (.regD [⟨.t 82, .p (.fa 1), [.l 1], none, 0, 0⟩, ⟨.t 83, .r (.load false 1), [.t 82], none, 0, 0⟩, ⟨.t 84, .p (.bin .neq), [.t 83, .c (.str 0 0)], none, 0, 0⟩, ⟨.t 85, .p (.mv), [.t 84], none, 0, 0⟩, ⟨.t 86, .p (.fa 1), [.l 1], (some (.t 85, true)), 0, 0⟩, ⟨.t 87, .r (.load false 1), [.t 86], (some (.t 85, true)), 0, 0⟩, ⟨.t 89, .p (.fa 1), [.l 1], (some (.t 85, true)), 0, 1⟩, ⟨.t 90, .r (.load false 1), [.t 89], (some (.t 85, true)), 0, 1⟩, ⟨.t 91, .p (.leng .str), [.t 90], (some (.t 85, true)), 0, 1⟩, ⟨.t 88, .call 76, [.t 87], (some (.t 85, true)), 0, 1⟩, ⟨.t 92, .p (.bin .eql), [.t 88, .t 91], (some (.t 85, true)), 1, 1⟩, ⟨.t 93, .p (.pick), [.t 85, .t 92, .c (.bool false)], none, 1, 1⟩, ⟨.l 2, .p (.mv), [.t 93], none, 1, 1⟩])
 .ret)
 .skip))))))))))))
 (.seq (.reg [⟨.l 2, .p (.mv), [.c (.bool false)], none, 0, 0⟩])
 .ret))))),
 [.tmp (.l 2)]⟩
theorem cf131_ok : compF TP Tryz.f131 = some cf131 := by kernel_rfl
def cf132 : CF := ⟨0, (.seq (.reg [⟨.l 0, .a (.alloc [.nils, (.bool false), (.bool false), .nils, (.bool false), (.bool false), .nils, (.bool false), (.bool false), .nils, (.bool false), (.bool false), .nils, (.bool false), (.bool false), .nils, (.bool false), (.bool false)]), [], none, 0, 0⟩])
 (.seq (.reg [⟨.t 1, .a (.bslice [(.str 0 0)] 1 1 [(0, 1)]), [.c (.str 1 33)], none, 0, 0⟩, ⟨.t 2, .p (.build [.nils, (.bool false), (.bool false)] [(0, 1), (1, 1), (2, 1)]), [.t 1, .c (.bool true), .c (.bool false)], none, 0, 0⟩, ⟨.t 3, .a (.bslice [(.str 0 0)] 1 1 [(0, 1)]), [.c (.str 6 111546414232175)], none, 0, 0⟩, ⟨.t 4, .p (.build [.nils, (.bool false), (.bool false)] [(0, 1), (1, 1), (2, 1)]), [.t 3, .c (.bool false), .c (.bool false)], none, 0, 0⟩, ⟨.t 5, .a (.bslice [(.str 0 0)] 1 1 [(0, 1)]), [.c (.str 7 31370631742516833)], none, 0, 0⟩, ⟨.t 6, .p (.build [.nils, (.bool false), (.bool false)] [(0, 1), (1, 1), (2, 1)]), [.t 5, .c (.bool false), .c (.bool false)], none, 0, 0⟩, ⟨.t 7, .a (.bslice [(.str 0 0)] 6 1 [(0, 1), (1, 1), (2, 1), (3, 1), (4, 1), (5, 1)]), [.c (.str 3 4012605), .c (.str 3 4009789), .c (.str 1 60), .c (.str 2 15421), .c (.str 1 62), .c (.str 2 15678)], none, 0, 0⟩, ⟨.t 8, .p (.build [.nils, (.bool false), (.bool false)] [(0, 1), (1, 1), (2, 1)]), [.t 7, .c (.bool false), .c (.bool true)], none, 0, 0⟩, ⟨.t 9, .a (.bslice [(.str 0 0)] 1 1 [(0, 1)]), [.c (.str 2 11051)], none, 0, 0⟩, ⟨.t 10, .p (.build [.nils, (.bool false), (.bool false)] [(0, 1), (1, 1), (2, 1)]), [.t 9, .c (.bool true), .c (.bool false)], none, 0, 0⟩, ⟨.t 11, .a (.bslice [(.str 0 0)] 8 1 [(0, 1), (1, 1), (2, 1), (3, 1), (4, 1), (5, 1), (6, 1), (7, 1)]), [.c (.str 1 43), .c (.str 1 45), .c (.str 3 7499618), .c (.str 4 1919907938), .c (.str 3 7107426), .c (.str 3 7500642), .c (.str 2 29295), .c (.str 3 7499640)], none, 0, 0⟩, ⟨.t 12, .p (.build [.nils, (.bool false), (.bool false)] [(0, 1), (1, 1), (2, 1)]), [.t 11, .c (.bool false), .c (.bool false)], none, 0, 0⟩, ⟨.t 13, .p (.build [.nils, (.bool false), (.bool false), .nils, (.bool false), (.bool false), .nils, (.bool false), (.bool false), .nils, (.bool false), (.bool false), .nils, (.bool false), (.bool false), .nils, (.bool false), (.bool false)] [(0, 3), (3, 3), (6, 3), (9, 3), (12, 3), (15, 3)]), [.t 2, .t 4, .t 6, .t 8, .t 10, .t 12], none, 0, 0⟩, ⟨.no, .e (.store 18), [.l 0, .t 13], none, 0, 0⟩])
 .ret)),
 [.cell (.l 0) true 18]⟩
theorem cf132_ok : compF TP Tryz.f132 = some cf132 := by kernel_rfl
def cf133 : CF := ⟨2, (.seq (.reg [⟨.l 4, .p (.mv), [.c (.bool false)], none, 0, 0⟩])
 (.seq (.reg [⟨.t 5, .p (.mv), [.l 0], none, 0, 0⟩, ⟨.t 6, .p (.mv), [.l 1], none, 0, 0⟩, ⟨.t 7, .call 161, [.t 5, .t 6], none, 0, 0⟩, ⟨.t 8, .p (.bin .geq), [.t 7, .c (.int .i64 0)], none, 0, 0⟩, ⟨.l 4, .p (.mv), [.t 8], none, 0, 0⟩])
 .ret)),
 [.tmp (.l 4)]⟩
theorem cf133_ok : compF TP Tryz.f133 = some cf133 := by kernel_rfl
def cf134 : CF := ⟨1, (.seq (.reg [⟨.l 1, .a (.box), [.l 0], none, 0, 0⟩, ⟨.l 2, .p (.mv), [.c (.bool false)], none, 0, 0⟩])
 (.seq (.reg [⟨.t 3, .p (.fa 1), [.l 1], none, 0, 0⟩, ⟨.t 4, .r (.load false 1), [.t 3], none, 0, 0⟩, ⟨.t 5, .p (.ixsl 11), [.t 4, .c (.int .i64 0)], none, 0, 0⟩, ⟨.t 6, .r (.load true 11), [.t 5], none, 0, 0⟩, ⟨.t 7, .call 135, [.t 6], none, 0, 0⟩, ⟨.t 8, .p (.un .not), [.t 7], none, 0, 0⟩, ⟨.l 2, .p (.mv), [.t 8], none, 0, 0⟩])
 .ret)),
 [.tmp (.l 2)]⟩
theorem cf134_ok : compF TP Tryz.f134 = some cf134 := by kernel_rfl
def cf135 : CF := ⟨1, (.seq (.reg [⟨.l 1, .a (.box), [.l 0], none, 0, 0⟩, ⟨.l 2, .p (.mv), [.c (.bool false)], none, 0, 0⟩])
 (.seq (.seq (.reg [⟨.t 3, .p (.fa 0), [.l 1], none, 0, 0⟩, ⟨.l 4, .r (.load false 1), [.t 3], none, 0, 0⟩])
 (.block 0 (.seq (.seq (.reg [⟨.t 6, .p (.bin .eql), [.l 4, .c (.int .i64 3)], none, 0, 0⟩, ⟨.l 5, .p (.mv), [.t 6], none, 0, 0⟩])
 (.cond (.l 5) .skip
 (.reg [⟨.t 7, .p (.bin .eql), [.l 4, .c (.int .i64 4)], none, 0, 0⟩, ⟨.l 5, .p (.mv), [.t 7], none, 0, 0⟩])))
 (.cond (.l 5) (.seq (.reg [⟨.l 2, .p (.mv), [.c (.bool true)], none, 0, 0⟩])
 .ret)
 .skip))))
 (.seq (.reg [⟨.t 8, .p (.fa 0), [.l 1], none, 0, 0⟩, ⟨.t 9, .r (.load false 1), [.t 8], none, 0, 0⟩, ⟨.t 10, .p (.bin .eql), [.t 9, .c (.int .i64 2)], none, 0, 0⟩, ⟨.t 11, .p (.mv), [.t 10], none, 0, 0⟩, ⟨.t 12, .p (.fa 2), [.l 1], (some (.t 11, true)), 0, 0⟩, ⟨.t 13, .r (.load false 1), [.t 12], (some (.t 11, true)), 0, 0⟩, ⟨.t 14, .p (.bin .eql), [.t 13, .c (.str 5 491496043109)], (some (.t 11, true)), 0, 0⟩, ⟨.t 15, .p (.mv), [.t 14], (some (.t 11, true)), 0, 0⟩, ⟨.t 16, .p (.fa 2), [.l 1], (some (.t 15, false)), 0, 0⟩, ⟨.t 17, .r (.load false 1), [.t 16], (some (.t 15, false)), 0, 0⟩, ⟨.t 18, .p (.bin .eql), [.t 17, .c (.str 4 1953069157)], (some (.t 15, false)), 0, 0⟩, ⟨.t 19, .p (.pick), [.t 15, .c (.bool true), .t 18], (some (.t 11, true)), 0, 0⟩, ⟨.t 20, .p (.mv), [.t 19], (some (.t 11, true)), 0, 0⟩, ⟨.t 21, .p (.fa 2), [.l 1], (some (.t 20, false)), 0, 0⟩, ⟨.t 22, .r (.load false 1), [.t 21], (some (.t 20, false)), 0, 0⟩, ⟨.t 23, .p (.bin .eql), [.t 22, .c (.str 5 512970877044)], (some (.t 20, false)), 0, 0⟩, ⟨.t 24, .p (.pick), [.t 20, .c (.bool true), .t 23], (some (.t 11, true)), 0, 0⟩, ⟨.t 25, .p (.pick), [.t 11, .t 24, .c (.bool false)], none, 0, 0⟩, ⟨.l 2, .p (.mv), [.t 25], none, 0, 0⟩])
 .ret))),
 [.tmp (.l 2)]⟩
theorem cf135_ok : compF TP Tryz.f135 = some cf135 := by kernel_rfl
def cf136 : CF := ⟨3, (.seq (.reg [⟨.l 6, .p (.mv), [.c (.bool false)], none, 0, 0⟩])
 (.seq (.seq (.reg [⟨.t 10, .p (.mv), [.l 0], none, 0, 0⟩, ⟨.t 11, .p (.leng .sl), [.t 10], none, 0, 0⟩, ⟨.t 12, .p (.mv), [.l 1], none, 0, 0⟩, ⟨.t 13, .p (.leng .sl), [.t 12], none, 0, 0⟩, ⟨.l 14, .p (.bin .neq), [.t 11, .t 13], none, 0, 0⟩])
 (.cond (.l 14) (.seq (.reg [⟨.l 6, .p (.mv), [.c (.bool false)], none, 0, 0⟩])
 .ret)
 .skip))
 (.seq (.seq (.reg [⟨.l 15, .p (.mv), [.l 0], none, 0, 0⟩, ⟨.l 16, .p (.leng .sl), [.l 15], none, 0, 0⟩, ⟨.l 17, .p (.mv), [.c (.int .i64 0)], none, 0, 0⟩])
 (.block 0 (.loop (.seq (.reg [⟨.l 18, .p (.bin .lss), [.l 17, .l 16], none, 0, 0⟩])
 (.seq (.cond (.l 18) .skip
 (.exit 0))
 (.seq (.block 1 (.seq (.reg [⟨.t 19, .p (.mv), [.l 17], none, 0, 0⟩, ⟨.t 20, .p (.ixsl 11), [.l 15, .l 17], none, 0, 0⟩, ⟨.t 21, .r (.load true 11), [.t 20], none, 0, 0⟩, ⟨.l 8, .a (.alloc [(.int .i64 0), (.int .i64 0), (.str 0 0), (.str 0 0), .nils, .nils, .nils, .nils, .nils, .nils, (.bool false)]), [], none, 0, 0⟩, ⟨.l 7, .p (.mv), [.t 19], none, 0, 0⟩, ⟨.no, .e (.store 11), [.l 8, .t 21], none, 0, 0⟩])
 (.seq (.reg [⟨.t 22, .p (.mv), [.l 1], none, 0, 0⟩, ⟨.t 23, .p (.mv), [.l 7], none, 0, 0⟩, ⟨.t 24, .p (.ixsl 11), [.t 22, .t 23], none, 0, 0⟩, ⟨.t 25, .r (.load true 11), [.t 24], none, 0, 0⟩, ⟨.l 9, .a (.alloc [(.int .i64 0), (.int .i64 0), (.str 0 0), (.str 0 0), .nils, .nils, .nils, .nils, .nils, .nils, (.bool false)]), [], none, 0, 0⟩, ⟨.no, .e (.store 11), [.l 9, .t 25], none, 0, 0⟩])
 (.seq (.reg [⟨.t 26, .p (.mv), [.l 2], none, 0, 0⟩, ⟨.t 27, .r (.load true 11), [.l 8], none, 0, 0⟩, ⟨.t 28, .r (.load true 11), [.l 9], none, 0, 0⟩, ⟨.t 29, .callv, [.t 26, .t 27, .t 28], none, 0, 0⟩, ⟨.l 30, .p (.un .not), [.t 29], none, 0, 0⟩])
 (.cond (.l 30) (.seq (.reg [⟨.l 6, .p (.mv), [.c (.bool false)], none, 0, 0⟩])
 .ret)
 .skip)))))
 (.reg [⟨.t 31, .p (.bin .add), [.l 17, .c (.int .i64 1)], none, 0, 0⟩, ⟨.l 17, .p (.mv), [.t 31], none, 0, 0⟩])))))))
 (.seq (.reg [⟨.l 6, .p (.mv), [.c (.bool true)], none, 0, 0⟩])
 .ret)))),
 [.tmp (.l 6)]⟩
theorem cf136_ok : compF TP Tryz.f136 = some cf136 := by kernel_rfl
def cf137 : CF := ⟨3, (.seq (.reg [⟨.l 6, .p (.mv), [.c (.bool false)], none, 0, 0⟩])
 (.seq (.seq (.reg [⟨.t 10, .p (.mv), [.l 0], none, 0, 0⟩, ⟨.t 11, .p (.leng .sl), [.t 10], none, 0, 0⟩, ⟨.t 12, .p (.mv), [.l 1], none, 0, 0⟩, ⟨.t 13, .p (.leng .sl), [.t 12], none, 0, 0⟩, ⟨.l 14, .p (.bin .neq), [.t 11, .t 13], none, 0, 0⟩])
 (.cond (.l 14) (.seq (.reg [⟨.l 6, .p (.mv), [.c (.bool false)], none, 0, 0⟩])
 .ret)
 .skip))
 (.seq (.seq (.reg [⟨.l 15, .p (.mv), [.l 0], none, 0, 0⟩, ⟨.l 16, .p (.leng .sl), [.l 15], none, 0, 0⟩, ⟨.l 17, .p (.mv), [.c (.int .i64 0)], none, 0, 0⟩])
 (.block 0 (.loop (.seq (.reg [⟨.l 18, .p (.bin .lss), [.l 17, .l 16], none, 0, 0⟩])
 (.seq (.cond (.l 18) .skip
 (.exit 0))
 (.seq (.block 1 (.seq (.reg [⟨.t 19, .p (.mv), [.l 17], none, 0, 0⟩, ⟨.t 20, .p (.ixsl 27), [.l 15, .l 17], none, 0, 0⟩, ⟨.t 21, .r (.load true 27), [.t 20], none, 0, 0⟩, ⟨.l 8, .a (.alloc [(.int .i64 0), (.str 0 0), (.int .i64 0), (.int .i64 0), (.str 0 0), (.str 0 0), .nils, .nils, .nils, .nils, .nils, .nils, (.bool false), (.int .i64 0), (.int .i64 0), (.str 0 0), (.str 0 0), .nils, .nils, .nils, .nils, .nils, .nils, (.bool false), (.bool false), (.bool false), (.bool false)]), [], none, 0, 0⟩, ⟨.l 7, .p (.mv), [.t 19], none, 0, 0⟩, ⟨.no, .e (.store 27), [.l 8, .t 21], none, 0, 0⟩])
 (.seq (.reg [⟨.t 22, .p (.mv), [.l 1], none, 0, 0⟩, ⟨.t 23, .p (.mv), [.l 7], none, 0, 0⟩, ⟨.t 24, .p (.ixsl 27), [.t 22, .t 23], none, 0, 0⟩, ⟨.t 25, .r (.load true 27), [.t 24], none, 0, 0⟩, ⟨.l 9, .a (.alloc [(.int .i64 0), (.str 0 0), (.int .i64 0), (.int .i64 0), (.str 0 0), (.str 0 0), .nils, .nils, .nils, .nils, .nils, .nils, (.bool false), (.int .i64 0), (.int .i64 0), (.str 0 0), (.str 0 0), .nils, .nils, .nils, .nils, .nils, .nils, (.bool false), (.bool false), (.bool false), (.bool false)]), [], none, 0, 0⟩, ⟨.no, .e (.store 27), [.l 9, .t 25], none, 0, 0⟩])
 (.seq (.reg [⟨.t 26, .p (.mv), [.l 2], none, 0, 0⟩, ⟨.t 27, .r (.load true 27), [.l 8], none, 0, 0⟩, ⟨.t 28, .r (.load true 27), [.l 9], none, 0, 0⟩, ⟨.t 29, .callv, [.t 26, .t 27, .t 28], none, 0, 0⟩, ⟨.l 30, .p (.un .not), [.t 29], none, 0, 0⟩])
 (.cond (.l 30) (.seq (.reg [⟨.l 6, .p (.mv), [.c (.bool false)], none, 0, 0⟩])
 .ret)
 .skip)))))
 (.reg [⟨.t 31, .p (.bin .add), [.l 17, .c (.int .i64 1)], none, 0, 0⟩, ⟨.l 17, .p (.mv), [.t 31], none, 0, 0⟩])))))))
 (.seq (.reg [⟨.l 6, .p (.mv), [.c (.bool true)], none, 0, 0⟩])
 .ret)))),
 [.tmp (.l 6)]⟩
theorem cf137_ok : compF TP Tryz.f137 = some cf137 := by kernel_rfl
def cf138 : CF := ⟨3, (.seq (.reg [⟨.l 6, .p (.mv), [.c (.bool false)], none, 0, 0⟩])
 (.seq (.seq (.reg [⟨.t 10, .p (.mv), [.l 0], none, 0, 0⟩, ⟨.t 11, .p (.leng .sl), [.t 10], none, 0, 0⟩, ⟨.t 12, .p (.mv), [.l 1], none, 0, 0⟩, ⟨.t 13, .p (.leng .sl), [.t 12], none, 0, 0⟩, ⟨.l 14, .p (.bin .neq), [.t 11, .t 13], none, 0, 0⟩])
 (.cond (.l 14) (.seq (.reg [⟨.l 6, .p (.mv), [.c (.bool false)], none, 0, 0⟩])
 .ret)
 .skip))
 (.seq (.seq (.reg [⟨.l 15, .p (.mv), [.l 0], none, 0, 0⟩, ⟨.l 16, .p (.leng .sl), [.l 15], none, 0, 0⟩, ⟨.l 17, .p (.mv), [.c (.int .i64 0)], none, 0, 0⟩])
 (.block 0 (.loop (.seq (.reg [⟨.l 18, .p (.bin .lss), [.l 17, .l 16], none, 0, 0⟩])
 (.seq (.cond (.l 18) .skip
 (.exit 0))
 (.seq (.block 1 (.seq (.reg [⟨.t 19, .p (.mv), [.l 17], none, 0, 0⟩, ⟨.t 20, .p (.ixsl 4), [.l 15, .l 17], none, 0, 0⟩, ⟨.t 21, .r (.load true 4), [.t 20], none, 0, 0⟩, ⟨.l 8, .a (.alloc [(.str 0 0), .nils, .nils, .nils]), [], none, 0, 0⟩, ⟨.l 7, .p (.mv), [.t 19], none, 0, 0⟩, ⟨.no, .e (.store 4), [.l 8, .t 21], none, 0, 0⟩])
 (.seq (.reg [⟨.t 22, .p (.mv), [.l 1], none, 0, 0⟩, ⟨.t 23, .p (.mv), [.l 7], none, 0, 0⟩, ⟨.t 24, .p (.ixsl 4), [.t 22, .t 23], none, 0, 0⟩, ⟨.t 25, .r (.load true 4), [.t 24], none, 0, 0⟩, ⟨.l 9, .a (.alloc [(.str 0 0), .nils, .nils, .nils]), [], none, 0, 0⟩, ⟨.no, .e (.store 4), [.l 9, .t 25], none, 0, 0⟩])
 (.seq (.reg [⟨.t 26, .p (.mv), [.l 2], none, 0, 0⟩, ⟨.t 27, .r (.load true 4), [.l 8], none, 0, 0⟩, ⟨.t 28, .r (.load true 4), [.l 9], none, 0, 0⟩, ⟨.t 29, .callv, [.t 26, .t 27, .t 28], none, 0, 0⟩, ⟨.l 30, .p (.un .not), [.t 29], none, 0, 0⟩])
 (.cond (.l 30) (.seq (.reg [⟨.l 6, .p (.mv), [.c (.bool false)], none, 0, 0⟩])
 .ret)
 .skip)))))
 (.reg [⟨.t 31, .p (.bin .add), [.l 17, .c (.int .i64 1)], none, 0, 0⟩, ⟨.l 17, .p (.mv), [.t 31], none, 0, 0⟩])))))))
 (.seq (.reg [⟨.l 6, .p (.mv), [.c (.bool true)], none, 0, 0⟩])
 .ret)))),
 [.tmp (.l 6)]⟩
theorem cf138_ok : compF TP Tryz.f138 = some cf138 := by kernel_rfl
def cf141 : CF := ⟨3, (.seq (.reg [⟨.l 6, .p (.mv), [.c (.bool false)], none, 0, 0⟩])
 (.seq (.seq (.reg [⟨.t 10, .p (.mv), [.l 0], none, 0, 0⟩, ⟨.t 11, .p (.leng .sl), [.t 10], none, 0, 0⟩, ⟨.t 12, .p (.mv), [.l 1], none, 0, 0⟩, ⟨.t 13, .p (.leng .sl), [.t 12], none, 0, 0⟩, ⟨.l 14, .p (.bin .neq), [.t 11, .t 13], none, 0, 0⟩])
 (.cond (.l 14) (.seq (.reg [⟨.l 6, .p (.mv), [.c (.bool false)], none, 0, 0⟩])
 .ret)
 .skip))
 (.seq (.seq (.reg [⟨.l 15, .p (.mv), [.l 0], none, 0, 0⟩, ⟨.l 16, .p (.leng .sl), [.l 15], none, 0, 0⟩, ⟨.l 17, .p (.mv), [.c (.int .i64 0)], none, 0, 0⟩])
 (.block 0 (.loop (.seq (.reg [⟨.l 18, .p (.bin .lss), [.l 17, .l 16], none, 0, 0⟩])
 (.seq (.cond (.l 18) .skip
 (.exit 0))
 (.seq (.block 1 (.seq (.reg [⟨.t 19, .p (.mv), [.l 17], none, 0, 0⟩, ⟨.t 20, .p (.ixsl 23), [.l 15, .l 17], none, 0, 0⟩, ⟨.t 21, .r (.load true 23), [.t 20], none, 0, 0⟩, ⟨.l 8, .a (.alloc [(.bool false), (.int .i64 0), (.int .i64 0), (.str 0 0), (.str 0 0), .nils, .nils, .nils, .nils, .nils, .nils, (.bool false), (.int .i64 0), (.int .i64 0), (.str 0 0), (.str 0 0), .nils, .nils, .nils, .nils, .nils, .nils, (.bool false)]), [], none, 0, 0⟩, ⟨.l 7, .p (.mv), [.t 19], none, 0, 0⟩, ⟨.no, .e (.store 23), [.l 8, .t 21], none, 0, 0⟩])
 (.seq (.reg [⟨.t 22, .p (.mv), [.l 1], none, 0, 0⟩, ⟨.t 23, .p (.mv), [.l 7], none, 0, 0⟩, ⟨.t 24, .p (.ixsl 23), [.t 22, .t 23], none, 0, 0⟩, ⟨.t 25, .r (.load true 23), [.t 24], none, 0, 0⟩, ⟨.l 9, .a (.alloc [(.bool false), (.int .i64 0), (.int .i64 0), (.str 0 0), (.str 0 0), .nils, .nils, .nils, .nils, .nils, .nils, (.bool false), (.int .i64 0), (.int .i64 0), (.str 0 0), (.str 0 0), .nils, .nils, .nils, .nils, .nils, .nils, (.bool false)]), [], none, 0, 0⟩, ⟨.no, .e (.store 23), [.l 9, .t 25], none, 0, 0⟩])
 (.seq (.reg [⟨.t 26, .p (.mv), [.l 2], none, 0, 0⟩, ⟨.t 27, .r (.load true 23), [.l 8], none, 0, 0⟩, ⟨.t 28, .r (.load true 23), [.l 9], none, 0, 0⟩, ⟨.t 29, .callv, [.t 26, .t 27, .t 28], none, 0, 0⟩, ⟨.l 30, .p (.un .not), [.t 29], none, 0, 0⟩])
 (.cond (.l 30) (.seq (.reg [⟨.l 6, .p (.mv), [.c (.bool false)], none, 0, 0⟩])
 .ret)
 .skip)))))
 (.reg [⟨.t 31, .p (.bin .add), [.l 17, .c (.int .i64 1)], none, 0, 0⟩, ⟨.l 17, .p (.mv), [.t 31], none, 0, 0⟩])))))))
 (.seq (.reg [⟨.l 6, .p (.mv), [.c (.bool true)], none, 0, 0⟩])
 .ret)))),
 [.tmp (.l 6)]⟩
theorem cf141_ok : compF TP Tryz.f141 = some cf141 := by kernel_rfl
def cf142 : CF := ⟨2, (.seq (.reg [⟨.l 4, .p (.mv), [.c (.int .i64 0)], none, 0, 0⟩])
 (.seq (.seq (.reg [⟨.t 6, .p (.mv), [.l 0], none, 0, 0⟩, ⟨.l 7, .p (.leng .sl), [.t 6], none, 0, 0⟩, ⟨.l 8, .p (.mv), [.c (.int .i64 0)], none, 0, 0⟩])
 (.block 0 (.loop (.seq (.reg [⟨.l 9, .p (.bin .lss), [.l 8, .l 7], none, 0, 0⟩])
 (.seq (.cond (.l 9) .skip
 (.exit 0))
 (.seq (.block 1 (.seq (.reg [⟨.t 10, .p (.mv), [.l 8], none, 0, 0⟩, ⟨.l 5, .p (.mv), [.t 10], none, 0, 0⟩])
 (.seq (.reg [⟨.t 11, .p (.mv), [.l 1], none, 0, 0⟩, ⟨.t 12, .p (.mv), [.l 0], none, 0, 0⟩, ⟨.t 13, .p (.mv), [.l 5], none, 0, 0⟩, ⟨.t 14, .p (.ixsl 11), [.t 12, .t 13], none, 0, 0⟩, ⟨.t 15, .r (.load true 11), [.t 14], none, 0, 0⟩, ⟨.l 16, .callv, [.t 11, .t 15], none, 0, 0⟩])
 (.cond (.l 16) (.seq (.reg [⟨.t 17, .p (.mv), [.l 5], none, 0, 0⟩, ⟨.l 4, .p (.mv), [.t 17], none, 0, 0⟩])
 .ret)
 .skip))))
 (.reg [⟨.t 18, .p (.bin .add), [.l 8, .c (.int .i64 1)], none, 0, 0⟩, ⟨.l 8, .p (.mv), [.t 18], none, 0, 0⟩])))))))
 (.seq (.reg [⟨.l 4, .p (.mv), [.c (.int .i64 (-1))], none, 0, 0⟩])
 .ret))),
 [.tmp (.l 4)]⟩
theorem cf142_ok : compF TP Tryz.f142 = some cf142 := by kernel_rfl
def cf144 : CF := ⟨3, (.seq (.reg [⟨.t 7, .p (.mv), [.l 1], none, 0, 0⟩, ⟨.l 8, .call 68, [.t 7], none, 0, 0⟩, ⟨.l 9, .p (.leng .sl), [.l 8], none, 0, 0⟩, ⟨.l 10, .p (.mv), [.c (.int .i64 0)], none, 0, 0⟩])
 (.block 0 (.loop (.seq (.reg [⟨.l 11, .p (.bin .lss), [.l 10, .l 9], none, 0, 0⟩])
 (.seq (.cond (.l 11) .skip
 (.exit 0))
 (.seq (.block 1 (.seq (.reg [⟨.t 12, .p (.ixsl 1), [.l 8, .l 10], none, 0, 0⟩, ⟨.t 13, .r (.load false 1), [.t 12], none, 0, 0⟩, ⟨.l 6, .p (.mv), [.t 13], none, 0, 0⟩])
 (.reg [⟨.t 14, .r (.load false 1), [.l 2], none, 0, 0⟩, ⟨.t 15, .p (.mv), [.l 6], none, 0, 0⟩, ⟨.t 16, .p (.mv), [.l 0], none, 0, 0⟩, ⟨.no, .e (.mapup (.one .s)), [.t 14, .t 15, .t 16], none, 0, 0⟩])))
 (.reg [⟨.t 17, .p (.bin .add), [.l 10, .c (.int .i64 1)], none, 0, 0⟩, ⟨.l 10, .p (.mv), [.t 17], none, 0, 0⟩]))))))),
 []⟩
theorem cf144_ok : compF TP Tryz.f144 = some cf144 := by kernel_rfl
def cf147 : CF := ⟨1, (.seq (.reg [⟨.l 1, .a (.box), [.l 0], none, 0, 0⟩, ⟨.l 2, .p (.mv), [.c (.bool false)], none, 0, 0⟩])
 (.seq (.seq (.reg [⟨.t 5, .p (.fa 0), [.l 1], none, 0, 0⟩, ⟨.l 6, .r (.load false 1), [.t 5], none, 0, 0⟩])
 (.block 0 (.seq (.seq (.reg [⟨.t 8, .p (.bin .eql), [.l 6, .c (.int .i64 1)], none, 0, 0⟩, ⟨.l 7, .p (.mv), [.t 8], none, 0, 0⟩])
 (.cond (.l 7) .skip
 (.seq (.reg [⟨.t 9, .p (.bin .eql), [.l 6, .c (.int .i64 2)], none, 0, 0⟩, ⟨.l 7, .p (.mv), [.t 9], none, 0, 0⟩])
 (.cond (.l 7) .skip
 (.seq (.reg [⟨.t 10, .p (.bin .eql), [.l 6, .c (.int .i64 3)], none, 0, 0⟩, ⟨.l 7, .p (.mv), [.t 10], none, 0, 0⟩])
 (.cond (.l 7) .skip
 (.seq (.reg [⟨.t 11, .p (.bin .eql), [.l 6, .c (.int .i64 4)], none, 0, 0⟩, ⟨.l 7, .p (.mv), [.t 11], none, 0, 0⟩])
 (.cond (.l 7) .skip
 (.reg [⟨.t 12, .p (.bin .eql), [.l 6, .c (.int .i64 6)], none, 0, 0⟩, ⟨.l 7, .p (.mv), [.t 12], none, 0, 0⟩])))))))))
 (.cond (.l 7) (.seq (.reg [⟨.l 2, .p (.mv), [.c (.bool true)], none, 0, 0⟩])
 .ret)
 (.seq (.seq (.reg [⟨.t 14, .p (.bin .eql), [.l 6, .c (.int .i64 5)], none, 0, 0⟩, ⟨.l 13, .p (.mv), [.t 14], none, 0, 0⟩])
 (.cond (.l 13) .skip
 (.reg [⟨.t 15, .p (.bin .eql), [.l 6, .c (.int .i64 7)], none, 0, 0⟩, ⟨.l 13, .p (.mv), [.t 15], none, 0, 0⟩])))
 (.cond (.l 13) (.seq (.reg [⟨.t 16, .p (.fa 4), [.l 1], none, 0, 0⟩, ⟨.t 17, .r (.load false 1), [.t 16], none, 0, 0⟩, ⟨.t 18, .call 165, [.t 17, .c (.func (.func 147) [] [])], none, 0, 0⟩, ⟨.l 2, .p (.mv), [.t 18], none, 0, 0⟩])
 .ret)
 (.seq (.reg [⟨.t 20, .p (.bin .eql), [.l 6, .c (.int .i64 8)], none, 0, 0⟩, ⟨.l 19, .p (.mv), [.t 20], none, 0, 0⟩])
 (.cond (.l 19) (.seq (.seq (.reg [⟨.t 21, .p (.fa 5), [.l 1], none, 0, 0⟩, ⟨.l 22, .r (.load false 1), [.t 21], none, 0, 0⟩, ⟨.l 23, .p (.leng .sl), [.l 22], none, 0, 0⟩, ⟨.l 24, .p (.mv), [.c (.int .i64 0)], none, 0, 0⟩])
 (.block 1 (.loop (.seq (.reg [⟨.l 25, .p (.bin .lss), [.l 24, .l 23], none, 0, 0⟩])
 (.seq (.cond (.l 25) .skip
 (.exit 1))
 (.seq (.block 2 (.seq (.reg [⟨.t 26, .p (.ixsl 27), [.l 22, .l 24], none, 0, 0⟩, ⟨.t 27, .r (.load true 27), [.t 26], none, 0, 0⟩, ⟨.l 4, .a (.alloc [(.int .i64 0), (.str 0 0), (.int .i64 0), (.int .i64 0), (.str 0 0), (.str 0 0), .nils, .nils, .nils, .nils, .nils, .nils, (.bool false), (.int .i64 0), (.int .i64 0), (.str 0 0), (.str 0 0), .nils, .nils, .nils, .nils, .nils, .nils, (.bool false), (.bool false), (.bool false), (.bool false)]), [], none, 0, 0⟩, ⟨.no, .e (.store 27), [.l 4, .t 27], none, 0, 0⟩])
 (.seq (.reg [⟨.t 28, .r (.load true 27), [.l 4], none, 0, 0⟩, ⟨.t 29, .call 164, [.t 28], none, 0, 0⟩, ⟨.l 30, .p (.un .not), [.t 29], none, 0, 0⟩])
 (.cond (.l 30) (.seq (.reg [⟨.l 2, .p (.mv), [.c (.bool false)], none, 0, 0⟩])
 .ret)
 .skip))))
 (.reg [⟨.t 31, .p (.bin .add), [.l 24, .c (.int .i64 1)], none, 0, 0⟩, ⟨.l 24, .p (.mv), [.t 31], none, 0, 0⟩])))))))
 (.seq (.reg [⟨.l 2, .p (.mv), [.c (.bool true)], none, 0, 0⟩])
 .ret))
 .skip))))))))
 (.seq (.reg [⟨.l 2, .p (.mv), [.c (.bool false)], none, 0, 0⟩])
 .ret))),
 [.tmp (.l 2)]⟩
theorem cf147_ok : compF TP Tryz.f147 = some cf147 := by kernel_rfl
def cf148 : CF := ⟨2, (.seq (.reg [⟨.l 2, .a (.box), [.l 0], none, 0, 0⟩])
 (.seq (.reg [⟨.t 8, .p (.fa 0), [.l 2], none, 0, 0⟩, ⟨.l 9, .r (.load false 1), [.t 8], none, 0, 0⟩])
 (.block 0 (.seq (.reg [⟨.t 11, .p (.bin .eql), [.l 9, .c (.int .i64 3)], none, 0, 0⟩, ⟨.l 10, .p (.mv), [.t 11], none, 0, 0⟩])
 (.cond (.l 10) (.reg [⟨.t 12, .p (.mv), [.l 1], none, 0, 0⟩, ⟨.t 13, .p (.fa 2), [.l 2], none, 0, 0⟩, ⟨.t 14, .r (.load false 1), [.t 13], none, 0, 0⟩, ⟨.t 15, .r (.lookup (.one .s) false (.int .i64 0)), [.t 12, .t 14], none, 0, 0⟩, ⟨.t 16, .p (.bin .add), [.t 15, .c (.int .i64 1)], none, 0, 0⟩, ⟨.no, .e (.mapup (.one .s)), [.t 12, .t 14, .t 16], none, 0, 0⟩])
 (.seq (.seq (.reg [⟨.t 18, .p (.bin .eql), [.l 9, .c (.int .i64 5)], none, 0, 0⟩, ⟨.l 17, .p (.mv), [.t 18], none, 0, 0⟩])
 (.cond (.l 17) .skip
 (.reg [⟨.t 19, .p (.bin .eql), [.l 9, .c (.int .i64 7)], none, 0, 0⟩, ⟨.l 17, .p (.mv), [.t 19], none, 0, 0⟩])))
 (.cond (.l 17) (.seq (.reg [⟨.t 20, .p (.fa 4), [.l 2], none, 0, 0⟩, ⟨.l 21, .r (.load false 1), [.t 20], none, 0, 0⟩, ⟨.l 22, .p (.leng .sl), [.l 21], none, 0, 0⟩, ⟨.l 23, .p (.mv), [.c (.int .i64 0)], none, 0, 0⟩])
 (.block 1 (.loop (.seq (.reg [⟨.l 24, .p (.bin .lss), [.l 23, .l 22], none, 0, 0⟩])
 (.seq (.cond (.l 24) .skip
 (.exit 1))
 (.seq (.block 2 (.seq (.reg [⟨.t 25, .p (.ixsl 11), [.l 21, .l 23], none, 0, 0⟩, ⟨.t 26, .r (.load true 11), [.t 25], none, 0, 0⟩, ⟨.l 5, .a (.alloc [(.int .i64 0), (.int .i64 0), (.str 0 0), (.str 0 0), .nils, .nils, .nils, .nils, .nils, .nils, (.bool false)]), [], none, 0, 0⟩, ⟨.no, .e (.store 11), [.l 5, .t 26], none, 0, 0⟩])
 (.reg [⟨.t 27, .r (.load true 11), [.l 5], none, 0, 0⟩, ⟨.t 28, .p (.mv), [.l 1], none, 0, 0⟩, ⟨.t 29, .call 148, [.t 27, .t 28], none, 0, 0⟩])))
 (.reg [⟨.t 30, .p (.bin .add), [.l 23, .c (.int .i64 1)], none, 0, 0⟩, ⟨.l 23, .p (.mv), [.t 30], none, 0, 0⟩])))))))
 (.seq (.reg [⟨.t 32, .p (.bin .eql), [.l 9, .c (.int .i64 8)], none, 0, 0⟩, ⟨.l 31, .p (.mv), [.t 32], none, 0, 0⟩])
 (.cond (.l 31) (.seq (.reg [⟨.t 33, .p (.fa 5), [.l 2], none, 0, 0⟩, ⟨.l 34, .r (.load false 1), [.t 33], none, 0, 0⟩, ⟨.l 35, .p (.leng .sl), [.l 34], none, 0, 0⟩, ⟨.l 36, .p (.mv), [.c (.int .i64 0)], none, 0, 0⟩])
 (.block 3 (.loop (.seq (.reg [⟨.l 37, .p (.bin .lss), [.l 36, .l 35], none, 0, 0⟩])
 (.seq (.cond (.l 37) .skip
 (.exit 3))
 (.seq (.block 4 (.seq (.reg [⟨.t 38, .p (.ixsl 27), [.l 34, .l 36], none, 0, 0⟩, ⟨.t 39, .r (.load true 27), [.t 38], none, 0, 0⟩, ⟨.l 7, .a (.alloc [(.int .i64 0), (.str 0 0), (.int .i64 0), (.int .i64 0), (.str 0 0), (.str 0 0), .nils, .nils, .nils, .nils, .nils, .nils, (.bool false), (.int .i64 0), (.int .i64 0), (.str 0 0), (.str 0 0), .nils, .nils, .nils, .nils, .nils, .nils, (.bool false), (.bool false), (.bool false), (.bool false)]), [], none, 0, 0⟩, ⟨.no, .e (.store 27), [.l 7, .t 39], none, 0, 0⟩])
 (.seq (.reg [⟨.t 40, .r (.load true 27), [.l 7], none, 0, 0⟩, ⟨.t 41, .call 164, [.t 40], none, 0, 0⟩, ⟨.t 42, .p (.mv), [.t 41], none, 0, 0⟩, ⟨.t 43, .p (.fa 0), [.l 7], (some (.t 42, true)), 0, 0⟩, ⟨.t 44, .r (.load false 1), [.t 43], (some (.t 42, true)), 0, 0⟩, ⟨.t 45, .p (.bin .neq), [.t 44, .c (.int .i64 4)], (some (.t 42, true)), 0, 0⟩, ⟨.t 46, .p (.pick), [.t 42, .t 45, .c (.bool false)], none, 0, 0⟩, ⟨.t 47, .p (.mv), [.t 46], none, 0, 0⟩, ⟨.t 48, .p (.fa 2), [.l 7], (some (.t 47, true)), 0, 0⟩, ⟨.t 49, .p (.fa 0), [.t 48], (some (.t 47, true)), 0, 0⟩, ⟨.t 50, .r (.load false 1), [.t 49], (some (.t 47, true)), 0, 0⟩, ⟨.t 51, .p (.bin .eql), [.t 50, .c (.int .i64 3)], (some (.t 47, true)), 0, 0⟩, ⟨.l 52, .p (.pick), [.t 47, .t 51, .c (.bool false)], none, 0, 0⟩])
 (.cond (.l 52) (.reg [⟨.t 53, .p (.mv), [.l 1], none, 0, 0⟩, ⟨.t 54, .p (.fa 2), [.l 7], none, 0, 0⟩, ⟨.t 55, .p (.fa 2), [.t 54], none, 0, 0⟩, ⟨.t 56, .r (.load false 1), [.t 55], none, 0, 0⟩, ⟨.t 57, .r (.lookup (.one .s) false (.int .i64 0)), [.t 53, .t 56], none, 0, 0⟩, ⟨.t 58, .p (.bin .add), [.t 57, .c (.int .i64 1)], none, 0, 0⟩, ⟨.no, .e (.mapup (.one .s)), [.t 53, .t 56, .t 58], none, 0, 0⟩])
 .skip))))
 (.reg [⟨.t 59, .p (.bin .add), [.l 36, .c (.int .i64 1)], none, 0, 0⟩, ⟨.l 36, .p (.mv), [.t 59], none, 0, 0⟩])))))))
 .skip))))))))),
 []⟩
theorem cf148_ok : compF TP Tryz.f148 = some cf148 := by kernel_rfl
def cf149 : CF := ⟨3, (.seq (.reg [⟨.l 4, .a (.box), [.l 1], none, 0, 0⟩])
 (.seq (.reg [⟨.t 6, .p (.mv), [.l 2], none, 0, 0⟩, ⟨.t 7, .p (.fa 2), [.l 4], none, 0, 0⟩, ⟨.t 8, .r (.load false 1), [.t 7], none, 0, 0⟩, ⟨.t 9, .r (.lookup (.one .s) false (.int .i64 0)), [.t 6, .t 8], none, 0, 0⟩, ⟨.l 10, .p (.bin .eql), [.t 9, .c (.int .i64 0)], none, 0, 0⟩])
 (.cond (.l 10) (.reg [⟨.t 11, .p (.mv), [.l 0], none, 0, 0⟩, ⟨.t 12, .p (.fa 2), [.l 4], none, 0, 0⟩, ⟨.t 13, .r (.load false 1), [.t 12], none, 0, 0⟩, ⟨.t 14, .call 65, [.t 11, .c (.int .i64 7), .t 13, .c (.int .i64 0)], none, 0, 0⟩])
 .skip))),
 []⟩
theorem cf149_ok : compF TP Tryz.f149 = some cf149 := by kernel_rfl
def cf150 : CF := ⟨1, (.seq (.reg [⟨.l 1, .a (.box), [.l 0], none, 0, 0⟩, ⟨.l 2, .p (.mv), [.c (.bool false)], none, 0, 0⟩])
 (.seq (.seq (.reg [⟨.t 3, .p (.fa 0), [.l 1], none, 0, 0⟩, ⟨.l 4, .r (.load false 1), [.t 3], none, 0, 0⟩])
 (.block 0 (.seq (.seq (.reg [⟨.t 6, .p (.bin .eql), [.l 4, .c (.int .i64 1)], none, 0, 0⟩, ⟨.l 5, .p (.mv), [.t 6], none, 0, 0⟩])
 (.cond (.l 5) .skip
 (.seq (.reg [⟨.t 7, .p (.bin .eql), [.l 4, .c (.int .i64 2)], none, 0, 0⟩, ⟨.l 5, .p (.mv), [.t 7], none, 0, 0⟩])
 (.cond (.l 5) .skip
 (.seq (.reg [⟨.t 8, .p (.bin .eql), [.l 4, .c (.int .i64 3)], none, 0, 0⟩, ⟨.l 5, .p (.mv), [.t 8], none, 0, 0⟩])
 (.cond (.l 5) .skip
 (.seq (.reg [⟨.t 9, .p (.bin .eql), [.l 4, .c (.int .i64 6)], none, 0, 0⟩, ⟨.l 5, .p (.mv), [.t 9], none, 0, 0⟩])
 (.cond (.l 5) .skip
 (.seq (.reg [⟨.t 10, .p (.bin .eql), [.l 4, .c (.int .i64 5)], none, 0, 0⟩, ⟨.l 5, .p (.mv), [.t 10], none, 0, 0⟩])
 (.cond (.l 5) .skip
 (.reg [⟨.t 11, .p (.bin .eql), [.l 4, .c (.int .i64 7)], none, 0, 0⟩, ⟨.l 5, .p (.mv), [.t 11], none, 0, 0⟩])))))))))))
 (.cond (.l 5) (.seq (.reg [⟨.l 2, .p (.mv), [.c (.bool true)], none, 0, 0⟩])
 .ret)
 (.seq (.reg [⟨.t 13, .p (.bin .eql), [.l 4, .c (.int .i64 9)], none, 0, 0⟩, ⟨.l 12, .p (.mv), [.t 13], none, 0, 0⟩])
 (.cond (.l 12) (.seq (.reg [⟨.t 14, .p (.fa 2), [.l 1], none, 0, 0⟩, ⟨.t 15, .r (.load false 1), [.t 14], none, 0, 0⟩, ⟨.t 16, .p (.bin .neq), [.t 15, .c (.str 2 11051)], none, 0, 0⟩, ⟨.t 17, .p (.mv), [.t 16], none, 0, 0⟩, ⟨.t 18, .p (.fa 2), [.l 1], (some (.t 17, true)), 0, 0⟩, ⟨.t 19, .r (.load false 1), [.t 18], (some (.t 17, true)), 0, 0⟩, ⟨.t 20, .p (.bin .neq), [.t 19, .c (.str 1 33)], (some (.t 17, true)), 0, 0⟩, ⟨.t 21, .p (.pick), [.t 17, .t 20, .c (.bool false)], none, 0, 0⟩, ⟨.l 2, .p (.mv), [.t 21], none, 0, 0⟩])
 .ret)
 (.seq (.reg [⟨.t 23, .p (.bin .eql), [.l 4, .c (.int .i64 10)], none, 0, 0⟩, ⟨.l 22, .p (.mv), [.t 23], none, 0, 0⟩])
 (.cond (.l 22) (.seq (.reg [⟨.t 24, .p (.fa 2), [.l 1], none, 0, 0⟩, ⟨.t 25, .r (.load false 1), [.t 24], none, 0, 0⟩, ⟨.t 26, .p (.fa 4), [.l 1], none, 0, 0⟩, ⟨.t 27, .r (.load false 1), [.t 26], none, 0, 0⟩, ⟨.t 28, .p (.leng .sl), [.t 27], none, 0, 0⟩, ⟨.t 29, .call 66, [.t 25, .t 28], none, 0, 0⟩, ⟨.t 30, .p (.bin .eql), [.t 29, .c (.int .i64 1)], none, 0, 0⟩, ⟨.l 2, .p (.mv), [.t 30], none, 0, 0⟩])
 .ret)
 .skip))))))))
 (.seq (.reg [⟨.l 2, .p (.mv), [.c (.bool false)], none, 0, 0⟩])
 .ret))),
 [.tmp (.l 2)]⟩
theorem cf150_ok : compF TP Tryz.f150 = some cf150 := by kernel_rfl
def cf152 : CF := ⟨3, (.seq (.reg [⟨.l 4, .a (.box), [.l 1], none, 0, 0⟩])
 (.seq (.seq (.regD [⟨.t 10, .p (.fa 0), [.l 4], none, 0, 1⟩, ⟨.t 11, .r (.load false 1), [.t 10], none, 0, 1⟩, ⟨.t 9, .call 167, [], none, 0, 1⟩, ⟨.t 12, .r (.lookup (.one .i) true .nilf), [.t 9, .t 11], none, 1, 1⟩, ⟨.t 8, .p (.mv), [.t 12], none, 1, 1⟩, ⟨.t 13, .p (.ext 0), [.t 8], none, 1, 1⟩, ⟨.t 14, .p (.ext 1), [.t 8], none, 1, 1⟩, ⟨.l 6, .p (.mv), [.t 13], none, 1, 1⟩, ⟨.l 7, .p (.mv), [.t 14], none, 1, 1⟩])
 (.seq (.reg [⟨.l 15, .p (.mv), [.l 7], none, 0, 0⟩])
 (.cond (.l 15) (.seq (.reg [⟨.t 16, .p (.mv), [.l 6], none, 0, 0⟩, ⟨.t 17, .p (.mv), [.l 0], none, 0, 0⟩, ⟨.t 18, .r (.load true 11), [.l 4], none, 0, 0⟩, ⟨.t 19, .p (.mv), [.l 2], none, 0, 0⟩, ⟨.t 20, .callv, [.t 16, .t 17, .t 18, .t 19], none, 0, 0⟩])
 .ret)
 .skip)))
 (.reg [⟨.t 21, .p (.mv), [.l 0], none, 0, 0⟩, ⟨.t 22, .p (.fa 4), [.l 4], none, 0, 0⟩, ⟨.t 23, .r (.load false 1), [.t 22], none, 0, 0⟩, ⟨.t 24, .p (.mv), [.l 2], none, 0, 0⟩, ⟨.t 25, .call 168, [.t 21, .t 23, .t 24], none, 0, 0⟩]))),
 []⟩
theorem cf152_ok : compF TP Tryz.f152 = some cf152 := by kernel_rfl
def cf158 : CF := ⟨1, (.seq (.reg [⟨.l 2, .a (.alloc [(.int .i64 0), (.int .i64 0), (.str 0 0), (.str 0 0), .nils, .nils, .nils, .nils, .nils, .nils, (.bool false)]), [], none, 0, 0⟩])
 (.seq (.seq (.reg [⟨.t 7, .p (.mv), [.l 0], none, 0, 0⟩, ⟨.t 8, .a (.bslice [(.str 0 0)] 1 1 [(0, 1)]), [.c (.str 1 45)], none, 0, 0⟩, ⟨.t 9, .call 25, [.t 7, .t 8], none, 0, 0⟩, ⟨.t 10, .p (.mv), [.t 9], none, 0, 0⟩, ⟨.t 11, .p (.mv), [.l 0], (some (.t 10, true)), 0, 0⟩, ⟨.t 12, .call 51, [.t 11, .c (.int .i64 1)], (some (.t 10, true)), 0, 0⟩, ⟨.t 13, .p (.field false 0 1), [.t 12], (some (.t 10, true)), 0, 0⟩, ⟨.t 14, .p (.bin .eql), [.t 13, .c (.int .i64 3)], (some (.t 10, true)), 0, 0⟩, ⟨.l 15, .p (.pick), [.t 10, .t 14, .c (.bool false)], none, 0, 0⟩])
 (.cond (.l 15) (.seq (.reg [⟨.t 16, .p (.mv), [.l 0], none, 0, 0⟩, ⟨.t 17, .call 51, [.t 16, .c (.int .i64 1)], none, 0, 0⟩, ⟨.t 18, .p (.field false 2 1), [.t 17], none, 0, 0⟩, ⟨.t 19, .p (.mv), [.l 0], none, 0, 0⟩, ⟨.t 20, .call 51, [.t 19, .c (.int .i64 2)], none, 0, 0⟩, ⟨.t 21, .call 53, [.t 20], none, 0, 0⟩, ⟨.l 3, .p (.mv), [.t 18], none, 0, 0⟩, ⟨.l 4, .p (.mv), [.t 21], none, 0, 0⟩])
 (.seq (.regD [⟨.t 22, .p (.mv), [.l 0], none, 0, 0⟩, ⟨.t 23, .p (.nilc), [.t 22], none, 0, 0⟩, ⟨.t 24, .p (.fa 1), [.t 23], none, 0, 0⟩, ⟨.t 25, .r (.load false 1), [.t 24], none, 0, 0⟩, ⟨.t 26, .p (.bin .add), [.t 25, .c (.int .i64 2)], none, 0, 0⟩, ⟨.t 27, .p (.mv), [.l 0], none, 0, 0⟩, ⟨.t 28, .p (.nilc), [.t 27], none, 0, 0⟩, ⟨.t 29, .p (.fa 0), [.t 28], none, 0, 0⟩, ⟨.t 30, .r (.load false 1), [.t 29], none, 0, 0⟩, ⟨.t 31, .p (.leng .sl), [.t 30], none, 0, 0⟩, ⟨.t 32, .p (.bin .lss), [.t 26, .t 31], none, 0, 0⟩, ⟨.t 33, .p (.mv), [.t 32], none, 0, 0⟩, ⟨.t 34, .p (.mv), [.l 4], (some (.t 33, true)), 0, 0⟩, ⟨.t 35, .p (.bin .eql), [.t 34, .c (.str 1 40)], (some (.t 33, true)), 0, 0⟩, ⟨.t 36, .p (.mv), [.t 35], (some (.t 33, true)), 0, 0⟩, ⟨.t 37, .p (.mv), [.l 4], (some (.t 36, false)), 0, 0⟩, ⟨.t 38, .p (.bin .eql), [.t 37, .c (.str 1 58)], (some (.t 36, false)), 0, 0⟩, ⟨.t 39, .p (.pick), [.t 36, .c (.bool true), .t 38], (some (.t 33, true)), 0, 0⟩, ⟨.t 40, .p (.pick), [.t 33, .t 39, .c (.bool false)], none, 0, 0⟩, ⟨.l 5, .p (.mv), [.t 40], none, 0, 0⟩])
 (.block 0 (.seq (.reg [⟨.t 42, .p (.mv), [.l 5], none, 0, 0⟩, ⟨.t 43, .p (.un .not), [.t 42], none, 0, 0⟩, ⟨.l 41, .p (.mv), [.t 43], none, 0, 0⟩])
 (.cond (.l 41) (.seq (.reg [⟨.t 44, .p (.mv), [.l 0], none, 0, 0⟩, ⟨.t 45, .p (.nilc), [.t 44], none, 0, 0⟩, ⟨.t 46, .p (.fa 1), [.t 45], none, 0, 0⟩, ⟨.t 47, .r (.load false 1), [.t 46], none, 0, 0⟩, ⟨.t 48, .p (.bin .add), [.t 47, .c (.int .i64 2)], none, 0, 0⟩, ⟨.t 49, .p (.nilc), [.t 44], none, 0, 0⟩, ⟨.t 50, .p (.fa 1), [.t 49], none, 0, 0⟩, ⟨.no, .e (.store 1), [.t 50, .t 48], none, 0, 0⟩])
 (.seq (.reg [⟨.t 51, .p (.mv), [.l 3], none, 0, 0⟩, ⟨.t 52, .p (.un .neg), [.t 51], none, 0, 0⟩, ⟨.t 53, .p (.toInt .i64), [.t 52], none, 0, 0⟩, ⟨.t 54, .p (.build [(.int .i64 0), (.int .i64 0), (.str 0 0), (.str 0 0), .nils, .nils, .nils, .nils, .nils, .nils, (.bool false)] [(0, 1), (1, 1)]), [.c (.int .i64 1), .t 53], none, 0, 0⟩, ⟨.no, .e (.store 11), [.l 2, .t 54], none, 0, 0⟩])
 .ret))
 (.seq (.reg [⟨.t 56, .p (.mv), [.l 3], none, 0, 0⟩, ⟨.t 57, .p (.bin .gtr), [.t 56, .c (.int .u64 9223372036854775807)], none, 0, 0⟩, ⟨.l 55, .p (.mv), [.t 57], none, 0, 0⟩])
 (.cond (.l 55) (.reg [⟨.t 58, .p (.mv), [.l 0], none, 0, 0⟩, ⟨.t 59, .call 17, [.t 58, .c (.int .i64 2), .c (.int .i64 101)], none, 0, 0⟩])
 .skip)))))))
 .skip))
 (.seq (.seq (.reg [⟨.t 60, .p (.mv), [.l 0], none, 0, 0⟩, ⟨.t 61, .a (.bslice [(.str 0 0)] 3 1 [(0, 1), (1, 1), (2, 1)]), [.c (.str 1 45), .c (.str 4 1953459810), .c (.str 3 7630702)], none, 0, 0⟩, ⟨.l 62, .call 25, [.t 60, .t 61], none, 0, 0⟩])
 (.cond (.l 62) (.seq (.reg [⟨.t 63, .p (.mv), [.l 0], none, 0, 0⟩, ⟨.t 64, .call 51, [.t 63, .c (.int .i64 0)], none, 0, 0⟩, ⟨.t 65, .p (.field false 1 1), [.t 64], none, 0, 0⟩, ⟨.l 6, .p (.mv), [.t 65], none, 0, 0⟩])
 (.seq (.reg [⟨.t 66, .p (.mv), [.l 0], none, 0, 0⟩, ⟨.t 67, .p (.nilc), [.t 66], none, 0, 0⟩, ⟨.t 68, .p (.fa 1), [.t 67], none, 0, 0⟩, ⟨.t 69, .r (.load false 1), [.t 68], none, 0, 0⟩, ⟨.t 70, .p (.bin .add), [.t 69, .c (.int .i64 1)], none, 0, 0⟩, ⟨.t 71, .p (.nilc), [.t 66], none, 0, 0⟩, ⟨.t 72, .p (.fa 1), [.t 71], none, 0, 0⟩, ⟨.no, .e (.store 1), [.t 72, .t 70], none, 0, 0⟩])
 (.seq (.reg [⟨.t 73, .p (.mv), [.l 6], none, 0, 0⟩, ⟨.t 74, .p (.mv), [.l 0], none, 0, 0⟩, ⟨.t 75, .call 158, [.t 74], none, 0, 0⟩, ⟨.t 76, .a (.bslice [(.int .i64 0), (.int .i64 0), (.str 0 0), (.str 0 0), .nils, .nils, .nils, .nils, .nils, .nils, (.bool false)] 1 11 [(0, 11)]), [.t 75], none, 0, 0⟩, ⟨.t 77, .p (.build [(.int .i64 0), (.int .i64 0), (.str 0 0), (.str 0 0), .nils, .nils, .nils, .nils, .nils, .nils, (.bool false)] [(0, 1), (2, 1), (4, 1)]), [.c (.int .i64 9), .t 73, .t 76], none, 0, 0⟩, ⟨.no, .e (.store 11), [.l 2, .t 77], none, 0, 0⟩])
 .ret)))
 .skip))
 (.seq (.reg [⟨.t 78, .p (.mv), [.l 0], none, 0, 0⟩, ⟨.t 79, .call 179, [.t 78], none, 0, 0⟩, ⟨.no, .e (.store 11), [.l 2, .t 79], none, 0, 0⟩])
 .ret)))),
 [.cell (.l 2) true 11]⟩
theorem cf158_ok : compF TP Tryz.f158 = some cf158 := by kernel_rfl
def cf161 : CF := ⟨2, (.seq (.reg [⟨.l 4, .p (.mv), [.c (.int .i64 0)], none, 0, 0⟩])
 (.seq (.seq (.reg [⟨.t 6, .p (.mv), [.l 0], none, 0, 0⟩, ⟨.l 7, .p (.leng .sl), [.t 6], none, 0, 0⟩, ⟨.l 8, .p (.mv), [.c (.int .i64 0)], none, 0, 0⟩])
 (.block 0 (.loop (.seq (.reg [⟨.l 9, .p (.bin .lss), [.l 8, .l 7], none, 0, 0⟩])
 (.seq (.cond (.l 9) .skip
 (.exit 0))
 (.seq (.block 1 (.seq (.reg [⟨.t 10, .p (.mv), [.l 8], none, 0, 0⟩, ⟨.l 5, .p (.mv), [.t 10], none, 0, 0⟩])
 (.seq (.reg [⟨.t 11, .p (.mv), [.l 1], none, 0, 0⟩, ⟨.t 12, .p (.mv), [.l 0], none, 0, 0⟩, ⟨.t 13, .p (.mv), [.l 5], none, 0, 0⟩, ⟨.t 14, .p (.ixsl 4), [.t 12, .t 13], none, 0, 0⟩, ⟨.t 15, .r (.load true 4), [.t 14], none, 0, 0⟩, ⟨.l 16, .callv, [.t 11, .t 15], none, 0, 0⟩])
 (.cond (.l 16) (.seq (.reg [⟨.t 17, .p (.mv), [.l 5], none, 0, 0⟩, ⟨.l 4, .p (.mv), [.t 17], none, 0, 0⟩])
 .ret)
 .skip))))
 (.reg [⟨.t 18, .p (.bin .add), [.l 8, .c (.int .i64 1)], none, 0, 0⟩, ⟨.l 8, .p (.mv), [.t 18], none, 0, 0⟩])))))))
 (.seq (.reg [⟨.l 4, .p (.mv), [.c (.int .i64 (-1))], none, 0, 0⟩])
 .ret))),
 [.tmp (.l 4)]⟩
theorem cf161_ok : compF TP Tryz.f161 = some cf161 := by kernel_rfl
def cf167 : CF := ⟨0, (.seq (.reg [⟨.l 0, .p (.mv), [.c .nilm], none, 0, 0⟩])
 (.seq (.reg [⟨.t 1, .a (.mkm false), [], none, 0, 0⟩, ⟨.no, .e (.mapup (.one .i)), [.t 1, .c (.int .i64 3), .c (.func (.func 149) [] [])], none, 0, 0⟩, ⟨.no, .e (.mapup (.one .i)), [.t 1, .c (.int .i64 4), .c (.func (.func 184) [] [])], none, 0, 0⟩, ⟨.no, .e (.mapup (.one .i)), [.t 1, .c (.int .i64 8), .c (.func (.func 185) [] [])], none, 0, 0⟩, ⟨.no, .e (.mapup (.one .i)), [.t 1, .c (.int .i64 10), .c (.func (.func 186) [] [])], none, 0, 0⟩, ⟨.no, .e (.mapup (.one .i)), [.t 1, .c (.int .i64 13), .c (.func (.func 187) [] [])], none, 0, 0⟩, ⟨.no, .e (.mapup (.one .i)), [.t 1, .c (.int .i64 15), .c (.func (.func 188) [] [])], none, 0, 0⟩, ⟨.no, .e (.mapup (.one .i)), [.t 1, .c (.int .i64 16), .c (.func (.func 189) [] [])], none, 0, 0⟩, ⟨.no, .e (.mapup (.one .i)), [.t 1, .c (.int .i64 17), .c (.func (.func 190) [] [])], none, 0, 0⟩, ⟨.no, .e (.mapup (.one .i)), [.t 1, .c (.int .i64 18), .c (.func (.func 191) [] [])], none, 0, 0⟩, ⟨.t 2, .p (.mv), [.t 1], none, 0, 0⟩, ⟨.l 0, .p (.mv), [.t 2], none, 0, 0⟩])
 .ret)),
 [.tmp (.l 0)]⟩
theorem cf167_ok : compF TP Tryz.f167 = some cf167 := by kernel_rfl
def cf168 : CF := ⟨3, (.seq (.reg [⟨.l 8, .p (.mv), [.l 1], none, 0, 0⟩, ⟨.l 9, .p (.leng .sl), [.l 8], none, 0, 0⟩, ⟨.l 10, .p (.mv), [.c (.int .i64 0)], none, 0, 0⟩])
 (.block 0 (.loop (.seq (.reg [⟨.l 11, .p (.bin .lss), [.l 10, .l 9], none, 0, 0⟩])
 (.seq (.cond (.l 11) .skip
 (.exit 0))
 (.seq (.block 1 (.seq (.reg [⟨.t 12, .p (.ixsl 11), [.l 8, .l 10], none, 0, 0⟩, ⟨.t 13, .r (.load true 11), [.t 12], none, 0, 0⟩, ⟨.l 7, .a (.alloc [(.int .i64 0), (.int .i64 0), (.str 0 0), (.str 0 0), .nils, .nils, .nils, .nils, .nils, .nils, (.bool false)]), [], none, 0, 0⟩, ⟨.no, .e (.store 11), [.l 7, .t 13], none, 0, 0⟩])
 (.reg [⟨.t 14, .p (.mv), [.l 0], none, 0, 0⟩, ⟨.t 15, .r (.load true 11), [.l 7], none, 0, 0⟩, ⟨.t 16, .p (.mv), [.l 2], none, 0, 0⟩, ⟨.t 17, .call 152, [.t 14, .t 15, .t 16], none, 0, 0⟩])))
 (.reg [⟨.t 18, .p (.bin .add), [.l 10, .c (.int .i64 1)], none, 0, 0⟩, ⟨.l 10, .p (.mv), [.t 18], none, 0, 0⟩]))))))),
 []⟩
theorem cf168_ok : compF TP Tryz.f168 = some cf168 := by kernel_rfl
def cf179 : CF := ⟨1, (.seq (.reg [⟨.l 2, .a (.alloc [(.int .i64 0), (.int .i64 0), (.str 0 0), (.str 0 0), .nils, .nils, .nils, .nils, .nils, .nils, (.bool false)]), [], none, 0, 0⟩])
 (.seq (.reg [⟨.t 6, .p (.mv), [.l 0], none, 0, 0⟩, ⟨.t 7, .call 51, [.t 6, .c (.int .i64 0)], none, 0, 0⟩, ⟨.t 8, .p (.field false 0 1), [.t 7], none, 0, 0⟩, ⟨.t 9, .p (.bin .eql), [.t 8, .c (.int .i64 1)], none, 0, 0⟩, ⟨.l 3, .p (.mv), [.t 9], none, 0, 0⟩])
 (.seq (.reg [⟨.t 10, .p (.mv), [.l 0], none, 0, 0⟩, ⟨.t 11, .call 121, [.t 10], none, 0, 0⟩, ⟨.l 4, .a (.alloc [(.int .i64 0), (.int .i64 0), (.str 0 0), (.str 0 0), .nils, .nils, .nils, .nils, .nils, .nils, (.bool false)]), [], none, 0, 0⟩, ⟨.no, .e (.store 11), [.l 4, .t 11], none, 0, 0⟩])
 (.seq (.reg [⟨.l 5, .p (.mv), [.c (.bool true)], none, 0, 0⟩])
 (.block 0 (.loop (.seq (.block 1 (.block 2 (.seq (.reg [⟨.t 14, .p (.mv), [.l 0], none, 0, 0⟩, ⟨.t 15, .a (.bslice [(.str 0 0)] 1 1 [(0, 1)]), [.c (.str 1 40)], none, 0, 0⟩, ⟨.t 16, .call 25, [.t 14, .t 15], none, 0, 0⟩, ⟨.t 17, .p (.mv), [.t 16], none, 0, 0⟩, ⟨.t 18, .p (.mv), [.l 3], (some (.t 17, true)), 0, 0⟩, ⟨.t 19, .p (.pick), [.t 17, .t 18, .c (.bool false)], none, 0, 0⟩, ⟨.t 20, .p (.mv), [.t 19], none, 0, 0⟩, ⟨.t 21, .p (.mv), [.l 5], (some (.t 20, true)), 0, 0⟩, ⟨.t 22, .p (.pick), [.t 20, .t 21, .c (.bool false)], none, 0, 0⟩, ⟨.l 13, .p (.mv), [.t 22], none, 0, 0⟩])
 (.cond (.l 13) (.regD [⟨.t 23, .p (.fa 2), [.l 4], none, 0, 1⟩, ⟨.t 24, .r (.load false 1), [.t 23], none, 0, 1⟩, ⟨.t 25, .p (.mv), [.l 0], none, 0, 0⟩, ⟨.t 26, .call 86, [.t 25, .c .nils], none, 0, 1⟩, ⟨.t 27, .p (.build [(.int .i64 0), (.int .i64 0), (.str 0 0), (.str 0 0), .nils, .nils, .nils, .nils, .nils, .nils, (.bool false)] [(0, 1), (2, 1), (4, 1)]), [.c (.int .i64 10), .t 24, .t 26], none, 1, 1⟩, ⟨.no, .e (.store 11), [.l 4, .t 27], none, 1, 2⟩])
 (.seq (.reg [⟨.t 29, .p (.mv), [.l 0], none, 0, 0⟩, ⟨.t 30, .a (.bslice [(.str 0 0)] 1 1 [(0, 1)]), [.c (.str 1 40)], none, 0, 0⟩, ⟨.t 31, .call 25, [.t 29, .t 30], none, 0, 0⟩, ⟨.l 28, .p (.mv), [.t 31], none, 0, 0⟩])
 (.cond (.l 28) (.reg [⟨.t 32, .p (.mv), [.l 0], none, 0, 0⟩, ⟨.t 33, .r (.load true 11), [.l 4], none, 0, 0⟩, ⟨.t 34, .a (.bslice [(.int .i64 0), (.int .i64 0), (.str 0 0), (.str 0 0), .nils, .nils, .nils, .nils, .nils, .nils, (.bool false)] 1 11 [(0, 11)]), [.t 33], none, 0, 0⟩, ⟨.t 35, .call 86, [.t 32, .t 34], none, 0, 0⟩, ⟨.t 36, .p (.build [(.int .i64 0), (.int .i64 0), (.str 0 0), (.str 0 0), .nils, .nils, .nils, .nils, .nils, .nils, (.bool false)] [(0, 1), (4, 1)]), [.c (.int .i64 12), .t 35], none, 0, 0⟩, ⟨.no, .e (.store 11), [.l 4, .t 36], none, 0, 0⟩])
 (.seq (.reg [⟨.t 38, .p (.mv), [.l 0], none, 0, 0⟩, ⟨.t 39, .call 54, [.t 38, .c (.str 1 58)], none, 0, 0⟩, ⟨.l 37, .p (.mv), [.t 39], none, 0, 0⟩])
 (.cond (.l 37) (.regD [⟨.t 40, .p (.mv), [.l 0], none, 0, 1⟩, ⟨.t 41, .r (.load true 11), [.l 4], none, 0, 1⟩, ⟨.t 42, .p (.mv), [.l 0], none, 0, 0⟩, ⟨.t 43, .call 121, [.t 42], none, 0, 1⟩, ⟨.t 44, .a (.bslice [(.int .i64 0), (.int .i64 0), (.str 0 0), (.str 0 0), .nils, .nils, .nils, .nils, .nils, .nils, (.bool false)] 2 11 [(0, 11), (11, 11)]), [.t 41, .t 43], none, 1, 1⟩, ⟨.t 45, .call 86, [.t 40, .t 44], none, 1, 2⟩, ⟨.t 46, .p (.build [(.int .i64 0), (.int .i64 0), (.str 0 0), (.str 0 0), .nils, .nils, .nils, .nils, .nils, .nils, (.bool false)] [(0, 1), (4, 1)]), [.c (.int .i64 11), .t 45], none, 2, 2⟩, ⟨.no, .e (.store 11), [.l 4, .t 46], none, 2, 3⟩])
 (.seq (.reg [⟨.t 12, .r (.load true 11), [.l 4], none, 0, 0⟩, ⟨.no, .e (.store 11), [.l 2, .t 12], none, 0, 0⟩])
 .ret)))))))))
 (.reg [⟨.l 5, .p (.mv), [.c (.bool false)], none, 0, 0⟩])))))))),
 [.cell (.l 2) true 11]⟩
theorem cf179_ok : compF TP Tryz.f179 = some cf179 := by kernel_rfl
def cf186 : CF := ⟨3, (.seq (.reg [⟨.l 4, .a (.box), [.l 1], none, 0, 0⟩])
 (.seq (.reg [⟨.t 7, .p (.fa 4), [.l 4], none, 0, 0⟩, ⟨.t 8, .r (.load false 1), [.t 7], none, 0, 0⟩, ⟨.t 9, .p (.leng .sl), [.t 8], none, 0, 0⟩, ⟨.l 6, .p (.mv), [.t 9], none, 0, 0⟩])
 (.seq (.seq (.regD [⟨.t 10, .p (.mv), [.l 0], none, 0, 0⟩, ⟨.t 11, .p (.nilc), [.t 10], none, 0, 0⟩, ⟨.t 12, .p (.fa 3), [.t 11], none, 0, 0⟩, ⟨.t 13, .r (.load false 1), [.t 12], none, 0, 0⟩, ⟨.t 14, .p (.fa 2), [.l 4], none, 0, 0⟩, ⟨.t 15, .r (.load false 1), [.t 14], none, 0, 0⟩, ⟨.t 16, .p (.mv), [.l 6], none, 0, 0⟩, ⟨.t 17, .p (.build [(.str 0 0), (.int .i64 0)] [(0, 1), (1, 1)]), [.t 15, .t 16], none, 0, 0⟩, ⟨.t 18, .r (.lookup (.agg [.s, .i]) false (.int .i64 0)), [.t 13, .t 17], none, 0, 0⟩, ⟨.t 19, .p (.bin .eql), [.t 18, .c (.int .i64 0)], none, 0, 0⟩, ⟨.t 20, .p (.mv), [.t 19], none, 0, 0⟩, ⟨.t 21, .p (.fa 2), [.l 4], (some (.t 20, true)), 0, 0⟩, ⟨.t 22, .r (.load false 1), [.t 21], (some (.t 20, true)), 0, 0⟩, ⟨.t 23, .p (.mv), [.l 6], (some (.t 20, true)), 0, 0⟩, ⟨.t 24, .call 66, [.t 22, .t 23], (some (.t 20, true)), 0, 1⟩, ⟨.t 25, .p (.bin .eql), [.t 24, .c (.int .i64 0)], (some (.t 20, true)), 1, 1⟩, ⟨.l 26, .p (.pick), [.t 20, .t 25, .c (.bool false)], none, 1, 1⟩])
 (.cond (.l 26) (.reg [⟨.t 27, .p (.mv), [.l 0], none, 0, 0⟩, ⟨.t 28, .p (.fa 2), [.l 4], none, 0, 0⟩, ⟨.t 29, .r (.load false 1), [.t 28], none, 0, 0⟩, ⟨.t 30, .p (.mv), [.l 6], none, 0, 0⟩, ⟨.t 31, .call 65, [.t 27, .c (.int .i64 6), .t 29, .t 30], none, 0, 0⟩])
 .skip))
 (.reg [⟨.t 32, .p (.mv), [.l 0], none, 0, 0⟩, ⟨.t 33, .p (.fa 4), [.l 4], none, 0, 0⟩, ⟨.t 34, .r (.load false 1), [.t 33], none, 0, 0⟩, ⟨.t 35, .p (.mv), [.l 2], none, 0, 0⟩, ⟨.t 36, .call 168, [.t 32, .t 34, .t 35], none, 0, 0⟩])))),
 []⟩
theorem cf186_ok : compF TP Tryz.f186 = some cf186 := by kernel_rfl
def cf187 : CF := ⟨3, (.seq (.reg [⟨.l 4, .a (.box), [.l 1], none, 0, 0⟩])
 (.seq (.seq (.regD [⟨.t 15, .r (.load true 11), [.l 4], none, 0, 2⟩, ⟨.t 16, .p (.mv), [.l 2], none, 0, 0⟩, ⟨.t 17, .call 199, [.t 16], none, 0, 1⟩, ⟨.t 18, .call 198, [.t 17], none, 1, 2⟩, ⟨.t 19, .call 197, [.t 15, .t 18], none, 2, 3⟩, ⟨.t 20, .p (.leng .sl), [.t 19], none, 3, 3⟩, ⟨.l 6, .p (.mv), [.t 20], none, 3, 3⟩])
 (.seq (.reg [⟨.t 21, .p (.mv), [.l 6], none, 0, 0⟩, ⟨.l 22, .p (.bin .gtr), [.t 21, .c (.int .i64 200)], none, 0, 0⟩])
 (.cond (.l 22) (.reg [⟨.t 23, .p (.mv), [.l 0], none, 0, 0⟩, ⟨.t 24, .p (.mv), [.l 6], none, 0, 0⟩, ⟨.t 25, .call 65, [.t 23, .c (.int .i64 13), .c (.str 0 0), .t 24], none, 0, 0⟩])
 .skip)))
 (.seq (.reg [⟨.t 26, .p (.fa 6), [.l 4], none, 0, 0⟩, ⟨.l 27, .r (.load false 1), [.t 26], none, 0, 0⟩, ⟨.l 28, .p (.leng .sl), [.l 27], none, 0, 0⟩, ⟨.l 29, .p (.mv), [.c (.int .i64 0)], none, 0, 0⟩])
 (.block 0 (.loop (.seq (.reg [⟨.l 30, .p (.bin .lss), [.l 29, .l 28], none, 0, 0⟩])
 (.seq (.cond (.l 30) .skip
 (.exit 0))
 (.seq (.block 1 (.seq (.reg [⟨.t 31, .p (.ixsl 4), [.l 27, .l 29], none, 0, 0⟩, ⟨.t 32, .r (.load true 4), [.t 31], none, 0, 0⟩, ⟨.l 8, .a (.alloc [(.str 0 0), .nils, .nils, .nils]), [], none, 0, 0⟩, ⟨.no, .e (.store 4), [.l 8, .t 32], none, 0, 0⟩])
 (.seq (.seq (.reg [⟨.t 33, .p (.fa 1), [.l 8], none, 0, 0⟩, ⟨.t 34, .r (.load false 1), [.t 33], none, 0, 0⟩, ⟨.t 35, .p (.leng .sl), [.t 34], none, 0, 0⟩, ⟨.l 9, .p (.mv), [.t 35], none, 0, 0⟩])
 (.seq (.reg [⟨.t 36, .p (.mv), [.l 9], none, 0, 0⟩, ⟨.t 37, .p (.fa 6), [.l 4], none, 0, 0⟩, ⟨.t 38, .r (.load false 1), [.t 37], none, 0, 0⟩, ⟨.t 39, .p (.ixsl 4), [.t 38, .c (.int .i64 0)], none, 0, 0⟩, ⟨.t 40, .p (.fa 1), [.t 39], none, 0, 0⟩, ⟨.t 41, .r (.load false 1), [.t 40], none, 0, 0⟩, ⟨.t 42, .p (.leng .sl), [.t 41], none, 0, 0⟩, ⟨.l 43, .p (.bin .neq), [.t 36, .t 42], none, 0, 0⟩])
 (.cond (.l 43) (.reg [⟨.t 44, .p (.mv), [.l 0], none, 0, 0⟩, ⟨.t 45, .p (.mv), [.l 9], none, 0, 0⟩, ⟨.t 46, .call 65, [.t 44, .c (.int .i64 12), .c (.str 0 0), .t 45], none, 0, 0⟩])
 .skip)))
 (.seq (.reg [⟨.t 47, .p (.mv), [.l 2], none, 0, 0⟩, ⟨.t 48, .call 151, [.t 47], none, 0, 0⟩, ⟨.t 49, .a (.mkm false), [], none, 0, 0⟩, ⟨.l 10, .p (.mv), [.t 48], none, 0, 0⟩, ⟨.l 11, .p (.mv), [.t 49], none, 0, 0⟩])
 (.seq (.seq (.reg [⟨.t 50, .p (.fa 1), [.l 8], none, 0, 0⟩, ⟨.l 51, .r (.load false 1), [.t 50], none, 0, 0⟩, ⟨.l 52, .p (.leng .sl), [.l 51], none, 0, 0⟩, ⟨.l 53, .p (.mv), [.c (.int .i64 0)], none, 0, 0⟩])
 (.block 2 (.loop (.seq (.reg [⟨.l 54, .p (.bin .lss), [.l 53, .l 52], none, 0, 0⟩])
 (.seq (.cond (.l 54) .skip
 (.exit 2))
 (.seq (.block 3 (.seq (.reg [⟨.t 55, .p (.ixsl 11), [.l 51, .l 53], none, 0, 0⟩, ⟨.t 56, .r (.load true 11), [.t 55], none, 0, 0⟩, ⟨.l 13, .a (.alloc [(.int .i64 0), (.int .i64 0), (.str 0 0), (.str 0 0), .nils, .nils, .nils, .nils, .nils, .nils, (.bool false)]), [], none, 0, 0⟩, ⟨.no, .e (.store 11), [.l 13, .t 56], none, 0, 0⟩])
 (.reg [⟨.t 57, .r (.load true 11), [.l 13], none, 0, 0⟩, ⟨.t 58, .p (.mv), [.l 11], none, 0, 0⟩, ⟨.t 59, .call 148, [.t 57, .t 58], none, 0, 0⟩])))
 (.reg [⟨.t 60, .p (.bin .add), [.l 53, .c (.int .i64 1)], none, 0, 0⟩, ⟨.l 53, .p (.mv), [.t 60], none, 0, 0⟩])))))))
 (.seq (.seq (.reg [⟨.t 61, .p (.mv), [.l 11], none, 0, 0⟩, ⟨.l 62, .e (.rangeM), [.t 61], none, 0, 0⟩])
 (.block 4 (.loop (.seq (.reg [⟨.t 63, .e (.nextM), [.l 62], none, 0, 0⟩, ⟨.l 64, .p (.ext 0), [.t 63], none, 0, 0⟩])
 (.seq (.cond (.l 64) .skip
 (.exit 4))
 (.block 5 (.seq (.reg [⟨.no, .p (.mv), [], none, 0, 0⟩])
 (.reg [⟨.t 67, .p (.mv), [.l 10], none, 0, 0⟩, ⟨.t 68, .p (.mv), [.l 14], none, 0, 0⟩, ⟨.no, .e (.delete (.one .s)), [.t 67, .t 68], none, 0, 0⟩]))))))))
 (.reg [⟨.t 69, .p (.mv), [.l 0], none, 0, 0⟩, ⟨.t 70, .r (.load true 4), [.l 8], none, 0, 0⟩, ⟨.t 71, .p (.mv), [.l 10], none, 0, 0⟩, ⟨.t 72, .call 67, [.t 69, .t 70, .t 71], none, 0, 0⟩])))))))
 (.reg [⟨.t 73, .p (.bin .add), [.l 29, .c (.int .i64 1)], none, 0, 0⟩, ⟨.l 29, .p (.mv), [.t 73], none, 0, 0⟩]))))))))),
 []⟩
theorem cf187_ok : compF TP Tryz.f187 = some cf187 := by kernel_rfl
def cf189 : CF := ⟨3, (.seq (.reg [⟨.l 4, .a (.box), [.l 1], none, 0, 0⟩])
 (.seq (.reg [⟨.t 6, .p (.mv), [.l 0], none, 0, 0⟩, ⟨.t 7, .p (.fa 4), [.l 4], none, 0, 0⟩, ⟨.t 8, .r (.load false 1), [.t 7], none, 0, 0⟩, ⟨.t 9, .p (.mv), [.l 2], none, 0, 0⟩, ⟨.t 10, .call 168, [.t 6, .t 8, .t 9], none, 0, 0⟩])
 (.reg [⟨.t 11, .p (.mv), [.l 0], none, 0, 0⟩, ⟨.t 12, .p (.fa 6), [.l 4], none, 0, 0⟩, ⟨.t 13, .r (.load false 1), [.t 12], none, 0, 0⟩, ⟨.t 14, .p (.mv), [.l 2], none, 0, 0⟩, ⟨.t 15, .call 200, [.t 11, .t 13, .t 14], none, 0, 0⟩]))),
 []⟩
theorem cf189_ok : compF TP Tryz.f189 = some cf189 := by kernel_rfl
def cf190 : CF := ⟨3, (.seq (.reg [⟨.l 4, .a (.box), [.l 1], none, 0, 0⟩])
 (.seq (.reg [⟨.t 6, .p (.mv), [.l 0], none, 0, 0⟩, ⟨.t 7, .p (.fa 6), [.l 4], none, 0, 0⟩, ⟨.t 8, .r (.load false 1), [.t 7], none, 0, 0⟩, ⟨.t 9, .p (.mv), [.l 2], none, 0, 0⟩, ⟨.t 10, .call 200, [.t 6, .t 8, .t 9], none, 0, 0⟩])
 (.seq (.reg [⟨.t 11, .p (.mv), [.l 0], none, 0, 0⟩, ⟨.t 12, .p (.fa 4), [.l 4], none, 0, 0⟩, ⟨.t 13, .r (.load false 1), [.t 12], none, 0, 0⟩, ⟨.t 14, .p (.mv), [.l 2], none, 0, 0⟩, ⟨.t 15, .call 168, [.t 11, .t 13, .t 14], none, 0, 0⟩])
 (.reg [⟨.t 16, .p (.mv), [.l 0], none, 0, 0⟩, ⟨.t 17, .p (.fa 9), [.l 4], none, 0, 0⟩, ⟨.t 18, .r (.load false 1), [.t 17], none, 0, 0⟩, ⟨.t 19, .p (.mv), [.l 2], none, 0, 0⟩, ⟨.t 20, .call 112, [.t 16, .t 18, .t 19], none, 0, 0⟩])))),
 []⟩
theorem cf190_ok : compF TP Tryz.f190 = some cf190 := by kernel_rfl
def cf191 : CF := ⟨3, (.seq (.reg [⟨.l 4, .a (.box), [.l 1], none, 0, 0⟩])
 (.seq (.reg [⟨.t 6, .p (.mv), [.l 0], none, 0, 0⟩, ⟨.t 7, .p (.fa 8), [.l 4], none, 0, 0⟩, ⟨.t 8, .r (.load false 1), [.t 7], none, 0, 0⟩, ⟨.t 9, .p (.mv), [.l 2], none, 0, 0⟩, ⟨.t 10, .call 112, [.t 6, .t 8, .t 9], none, 0, 0⟩])
 (.seq (.reg [⟨.t 11, .p (.mv), [.l 0], none, 0, 0⟩, ⟨.t 12, .p (.fa 6), [.l 4], none, 0, 0⟩, ⟨.t 13, .r (.load false 1), [.t 12], none, 0, 0⟩, ⟨.t 14, .p (.mv), [.l 2], none, 0, 0⟩, ⟨.t 15, .call 200, [.t 11, .t 13, .t 14], none, 0, 0⟩])
 (.seq (.reg [⟨.t 16, .p (.mv), [.l 0], none, 0, 0⟩, ⟨.t 17, .p (.fa 7), [.l 4], none, 0, 0⟩, ⟨.t 18, .r (.load false 1), [.t 17], none, 0, 0⟩, ⟨.t 19, .p (.mv), [.l 2], none, 0, 0⟩, ⟨.t 20, .call 200, [.t 16, .t 18, .t 19], none, 0, 0⟩])
 (.reg [⟨.t 21, .p (.mv), [.l 0], none, 0, 0⟩, ⟨.t 22, .p (.fa 9), [.l 4], none, 0, 0⟩, ⟨.t 23, .r (.load false 1), [.t 22], none, 0, 0⟩, ⟨.t 24, .p (.mv), [.l 2], none, 0, 0⟩, ⟨.t 25, .call 112, [.t 21, .t 23, .t 24], none, 0, 0⟩]))))),
 []⟩
theorem cf191_ok : compF TP Tryz.f191 = some cf191 := by kernel_rfl
def cf197 : CF := ⟨2, (.seq (.reg [⟨.l 2, .a (.box), [.l 0], none, 0, 0⟩, ⟨.l 4, .p (.mv), [.c .nils], none, 0, 0⟩])
 (.seq (.seq (.reg [⟨.t 8, .p (.fa 0), [.l 2], none, 0, 0⟩, ⟨.t 9, .r (.load false 1), [.t 8], none, 0, 0⟩, ⟨.t 10, .p (.bin .neq), [.t 9, .c (.int .i64 13)], none, 0, 0⟩, ⟨.t 11, .p (.mv), [.t 10], none, 0, 0⟩, ⟨.t 12, .r (.load true 11), [.l 2], (some (.t 11, false)), 0, 0⟩, ⟨.t 13, .call 202, [.t 12], (some (.t 11, false)), 0, 0⟩, ⟨.t 14, .p (.bin .neq), [.t 13, .c (.int .i64 0)], (some (.t 11, false)), 0, 0⟩, ⟨.l 15, .p (.pick), [.t 11, .c (.bool true), .t 14], none, 0, 0⟩])
 (.cond (.l 15) (.seq (.reg [⟨.l 4, .p (.mv), [.c .nils], none, 0, 0⟩])
 .ret)
 .skip))
 (.seq (.reg [⟨.t 16, .a (.mkm false), [], none, 0, 0⟩, ⟨.t 17, .p (.build [.nilm, .nils] [(0, 1)]), [.t 16], none, 0, 0⟩, ⟨.t 18, .a (.box), [.t 17], none, 0, 0⟩, ⟨.l 5, .p (.mv), [.t 18], none, 0, 0⟩])
 (.seq (.seq (.reg [⟨.l 19, .p (.mv), [.l 1], none, 0, 0⟩, ⟨.l 20, .p (.leng .sl), [.l 19], none, 0, 0⟩, ⟨.l 21, .p (.mv), [.c (.int .i64 0)], none, 0, 0⟩])
 (.block 0 (.loop (.seq (.reg [⟨.l 22, .p (.bin .lss), [.l 21, .l 20], none, 0, 0⟩])
 (.seq (.cond (.l 22) .skip
 (.exit 0))
 (.seq (.block 1 (.seq (.reg [⟨.t 23, .p (.ixsl 1), [.l 19, .l 21], none, 0, 0⟩, ⟨.t 24, .r (.load false 1), [.t 23], none, 0, 0⟩, ⟨.l 7, .p (.mv), [.t 24], none, 0, 0⟩])
 (.reg [⟨.t 25, .p (.mv), [.l 5], none, 0, 0⟩, ⟨.t 26, .p (.nilc), [.t 25], none, 0, 0⟩, ⟨.t 27, .p (.fa 0), [.t 26], none, 0, 0⟩, ⟨.t 28, .r (.load false 1), [.t 27], none, 0, 0⟩, ⟨.t 29, .p (.mv), [.l 7], none, 0, 0⟩, ⟨.no, .e (.mapup (.one .s)), [.t 28, .t 29, .c (.bool true)], none, 0, 0⟩])))
 (.reg [⟨.t 30, .p (.bin .add), [.l 21, .c (.int .i64 1)], none, 0, 0⟩, ⟨.l 21, .p (.mv), [.t 30], none, 0, 0⟩])))))))
 (.seq (.reg [⟨.t 31, .p (.mv), [.l 5], none, 0, 0⟩, ⟨.t 32, .p (.fa 6), [.l 2], none, 0, 0⟩, ⟨.t 33, .r (.load false 1), [.t 32], none, 0, 0⟩, ⟨.t 34, .call 203, [.t 31, .t 33, .c (.func (.func 204) [] [])], none, 0, 0⟩])
 (.seq (.reg [⟨.t 35, .p (.mv), [.l 5], none, 0, 0⟩, ⟨.t 36, .p (.nilc), [.t 35], none, 0, 0⟩, ⟨.t 37, .p (.fa 1), [.t 36], none, 0, 0⟩, ⟨.t 38, .r (.load false 1), [.t 37], none, 0, 0⟩, ⟨.l 4, .p (.mv), [.t 38], none, 0, 0⟩])
 .ret)))))),
 [.tmp (.l 4)]⟩
theorem cf197_ok : compF TP Tryz.f197 = some cf197 := by kernel_rfl
def cf199 : CF := ⟨1, (.seq (.reg [⟨.l 1, .a (.box), [.l 0], none, 0, 0⟩, ⟨.l 2, .p (.mv), [.c .nilf], none, 0, 0⟩])
 (.seq (.reg [⟨.t 3, .p (.mkf (.func 207) 0), [.l 1], none, 0, 0⟩, ⟨.l 2, .p (.mv), [.t 3], none, 0, 0⟩])
 .ret)),
 [.tmp (.l 2)]⟩
theorem cf199_ok : compF TP Tryz.f199 = some cf199 := by kernel_rfl
def cf200 : CF := ⟨3, (.seq (.reg [⟨.l 8, .p (.mv), [.l 1], none, 0, 0⟩, ⟨.l 9, .p (.leng .sl), [.l 8], none, 0, 0⟩, ⟨.l 10, .p (.mv), [.c (.int .i64 0)], none, 0, 0⟩])
 (.block 0 (.loop (.seq (.reg [⟨.l 11, .p (.bin .lss), [.l 10, .l 9], none, 0, 0⟩])
 (.seq (.cond (.l 11) .skip
 (.exit 0))
 (.seq (.block 1 (.seq (.reg [⟨.t 12, .p (.ixsl 4), [.l 8, .l 10], none, 0, 0⟩, ⟨.t 13, .r (.load true 4), [.t 12], none, 0, 0⟩, ⟨.l 7, .a (.alloc [(.str 0 0), .nils, .nils, .nils]), [], none, 0, 0⟩, ⟨.no, .e (.store 4), [.l 7, .t 13], none, 0, 0⟩])
 (.regD [⟨.t 14, .p (.mv), [.l 0], none, 0, 1⟩, ⟨.t 15, .r (.load true 4), [.l 7], none, 0, 1⟩, ⟨.t 16, .p (.mv), [.l 2], none, 0, 0⟩, ⟨.t 17, .call 151, [.t 16], none, 0, 1⟩, ⟨.t 18, .call 67, [.t 14, .t 15, .t 17], none, 1, 2⟩])))
 (.reg [⟨.t 19, .p (.bin .add), [.l 10, .c (.int .i64 1)], none, 0, 0⟩, ⟨.l 10, .p (.mv), [.t 19], none, 0, 0⟩]))))))),
 []⟩
theorem cf200_ok : compF TP Tryz.f200 = some cf200 := by kernel_rfl
def cf202 : CF := ⟨1, (.seq (.reg [⟨.l 1, .a (.box), [.l 0], none, 0, 0⟩, ⟨.l 2, .p (.mv), [.c (.int .i64 0)], none, 0, 0⟩])
 (.seq (.reg [⟨.t 4, .p (.build [(.int .i64 0), (.int .i64 0), (.bool false)] []), [], none, 0, 0⟩, ⟨.t 5, .a (.box), [.t 4], none, 0, 0⟩, ⟨.l 3, .p (.mv), [.t 5], none, 0, 0⟩])
 (.seq (.block 0 (.seq (.reg [⟨.t 7, .p (.mv), [.l 3], none, 0, 0⟩, ⟨.t 8, .r (.load true 11), [.l 1], none, 0, 0⟩, ⟨.t 9, .call 36, [.t 7, .t 8, .c (.int .i64 1)], none, 0, 0⟩, ⟨.t 10, .p (.un .not), [.t 9], none, 0, 0⟩, ⟨.l 6, .p (.mv), [.t 10], none, 0, 0⟩])
 (.cond (.l 6) (.seq (.reg [⟨.l 2, .p (.mv), [.c (.int .i64 100)], none, 0, 0⟩])
 .ret)
 (.seq (.reg [⟨.t 12, .p (.mv), [.l 3], none, 0, 0⟩, ⟨.t 13, .p (.nilc), [.t 12], none, 0, 0⟩, ⟨.t 14, .p (.fa 2), [.t 13], none, 0, 0⟩, ⟨.t 15, .r (.load false 1), [.t 14], none, 0, 0⟩, ⟨.t 16, .p (.mv), [.t 15], none, 0, 0⟩, ⟨.t 17, .p (.mv), [.l 3], (some (.t 16, false)), 0, 0⟩, ⟨.t 18, .p (.nilc), [.t 17], (some (.t 16, false)), 0, 0⟩, ⟨.t 19, .p (.fa 0), [.t 18], (some (.t 16, false)), 0, 0⟩, ⟨.t 20, .r (.load false 1), [.t 19], (some (.t 16, false)), 0, 0⟩, ⟨.t 21, .p (.bin .gtr), [.t 20, .c (.int .i64 4000)], (some (.t 16, false)), 0, 0⟩, ⟨.t 22, .p (.pick), [.t 16, .c (.bool true), .t 21], none, 0, 0⟩, ⟨.t 23, .p (.mv), [.t 22], none, 0, 0⟩, ⟨.t 24, .p (.mv), [.l 3], (some (.t 23, false)), 0, 0⟩, ⟨.t 25, .p (.nilc), [.t 24], (some (.t 23, false)), 0, 0⟩, ⟨.t 26, .p (.fa 1), [.t 25], (some (.t 23, false)), 0, 0⟩, ⟨.t 27, .r (.load false 1), [.t 26], (some (.t 23, false)), 0, 0⟩, ⟨.t 28, .p (.bin .gtr), [.t 27, .c (.int .i64 1000)], (some (.t 23, false)), 0, 0⟩, ⟨.t 29, .p (.pick), [.t 23, .c (.bool true), .t 28], none, 0, 0⟩, ⟨.l 11, .p (.mv), [.t 29], none, 0, 0⟩])
 (.cond (.l 11) (.seq (.reg [⟨.l 2, .p (.mv), [.c (.int .i64 3)], none, 0, 0⟩])
 .ret)
 .skip)))))
 (.seq (.reg [⟨.l 2, .p (.mv), [.c (.int .i64 0)], none, 0, 0⟩])
 .ret)))),
 [.tmp (.l 2)]⟩
theorem cf202_ok : compF TP Tryz.f202 = some cf202 := by kernel_rfl
def cf203 : CF := ⟨3, (.seq (.reg [⟨.l 3, .a (.box), [.l 0], none, 0, 0⟩])
 (.seq (.reg [⟨.l 13, .p (.mv), [.l 1], none, 0, 0⟩, ⟨.l 14, .p (.leng .sl), [.l 13], none, 0, 0⟩, ⟨.l 15, .p (.mv), [.c (.int .i64 0)], none, 0, 0⟩])
 (.block 0 (.loop (.seq (.reg [⟨.l 16, .p (.bin .lss), [.l 15, .l 14], none, 0, 0⟩])
 (.seq (.cond (.l 16) .skip
 (.exit 0))
 (.seq (.block 1 (.seq (.reg [⟨.t 17, .p (.ixsl 4), [.l 13, .l 15], none, 0, 0⟩, ⟨.t 18, .r (.load true 4), [.t 17], none, 0, 0⟩, ⟨.l 7, .a (.alloc [(.str 0 0), .nils, .nils, .nils]), [], none, 0, 0⟩, ⟨.no, .e (.store 4), [.l 7, .t 18], none, 0, 0⟩])
 (.seq (.reg [⟨.t 19, .p (.mv), [.l 2], none, 0, 0⟩, ⟨.l 8, .a (.alloc [.nilf]), [], none, 0, 0⟩, ⟨.no, .e (.store 1), [.l 8, .t 19], none, 0, 0⟩])
 (.seq (.seq (.reg [⟨.t 20, .p (.fa 1), [.l 7], none, 0, 0⟩, ⟨.l 21, .r (.load false 1), [.t 20], none, 0, 0⟩, ⟨.l 22, .p (.leng .sl), [.l 21], none, 0, 0⟩, ⟨.l 23, .p (.mv), [.c (.int .i64 0)], none, 0, 0⟩])
 (.block 2 (.loop (.seq (.reg [⟨.l 24, .p (.bin .lss), [.l 23, .l 22], none, 0, 0⟩])
 (.seq (.cond (.l 24) .skip
 (.exit 2))
 (.seq (.block 3 (.seq (.reg [⟨.t 25, .p (.ixsl 11), [.l 21, .l 23], none, 0, 0⟩, ⟨.t 26, .r (.load true 11), [.t 25], none, 0, 0⟩, ⟨.l 10, .a (.alloc [(.int .i64 0), (.int .i64 0), (.str 0 0), (.str 0 0), .nils, .nils, .nils, .nils, .nils, .nils, (.bool false)]), [], none, 0, 0⟩, ⟨.no, .e (.store 11), [.l 10, .t 26], none, 0, 0⟩])
 (.reg [⟨.t 27, .r (.load true 11), [.l 10], none, 0, 0⟩, ⟨.t 28, .p (.mkf (.func 210) 0), [.l 8], none, 0, 0⟩, ⟨.t 29, .call 209, [.t 27, .t 28, .c (.func (.func 212) [] [])], none, 0, 0⟩])))
 (.reg [⟨.t 30, .p (.bin .add), [.l 23, .c (.int .i64 1)], none, 0, 0⟩, ⟨.l 23, .p (.mv), [.t 30], none, 0, 0⟩])))))))
 (.seq (.seq (.reg [⟨.t 31, .p (.fa 1), [.l 7], none, 0, 0⟩, ⟨.l 32, .r (.load false 1), [.t 31], none, 0, 0⟩, ⟨.l 33, .p (.leng .sl), [.l 32], none, 0, 0⟩, ⟨.l 34, .p (.mv), [.c (.int .i64 0)], none, 0, 0⟩])
 (.block 4 (.loop (.seq (.reg [⟨.l 35, .p (.bin .lss), [.l 34, .l 33], none, 0, 0⟩])
 (.seq (.cond (.l 35) .skip
 (.exit 4))
 (.seq (.block 5 (.seq (.reg [⟨.t 36, .p (.ixsl 11), [.l 32, .l 34], none, 0, 0⟩, ⟨.t 37, .r (.load true 11), [.t 36], none, 0, 0⟩, ⟨.l 12, .a (.alloc [(.int .i64 0), (.int .i64 0), (.str 0 0), (.str 0 0), .nils, .nils, .nils, .nils, .nils, .nils, (.bool false)]), [], none, 0, 0⟩, ⟨.no, .e (.store 11), [.l 12, .t 37], none, 0, 0⟩])
 (.reg [⟨.t 38, .r (.load true 11), [.l 12], none, 0, 0⟩, ⟨.t 39, .p (.mkf (.func 214) 0), [.l 3, .l 8], none, 0, 0⟩, ⟨.t 40, .call 209, [.t 38, .c (.func (.func 213) [] []), .t 39], none, 0, 0⟩])))
 (.reg [⟨.t 41, .p (.bin .add), [.l 34, .c (.int .i64 1)], none, 0, 0⟩, ⟨.l 34, .p (.mv), [.t 41], none, 0, 0⟩])))))))
 (.reg [⟨.t 42, .r (.load false 1), [.l 3], none, 0, 0⟩, ⟨.t 43, .r (.load true 4), [.l 7], none, 0, 0⟩, ⟨.t 44, .r (.load false 1), [.l 8], none, 0, 0⟩, ⟨.t 45, .call 216, [.t 42, .t 43, .t 44], none, 0, 0⟩]))))))
 (.reg [⟨.t 46, .p (.bin .add), [.l 15, .c (.int .i64 1)], none, 0, 0⟩, ⟨.l 15, .p (.mv), [.t 46], none, 0, 0⟩])))))))),
 []⟩
theorem cf203_ok : compF TP Tryz.f203 = some cf203 := by kernel_rfl
def cf204 : CF := ⟨1, (.seq (.reg [⟨.l 2, .p (.mv), [.c (.bool false)], none, 0, 0⟩])
 (.seq (.reg [⟨.l 2, .p (.mv), [.c (.bool false)], none, 0, 0⟩])
 .ret)),
 [.tmp (.l 2)]⟩
theorem cf204_ok : compF TP Tryz.f204 = some cf204 := by kernel_rfl
def cf216 : CF := ⟨3, (.seq (.reg [⟨.l 4, .a (.box), [.l 1], none, 0, 0⟩])
 (.seq (.seq (.reg [⟨.t 10, .p (.fa 2), [.l 4], none, 0, 0⟩, ⟨.l 11, .r (.load false 1), [.t 10], none, 0, 0⟩, ⟨.l 12, .p (.leng .sl), [.l 11], none, 0, 0⟩, ⟨.l 13, .p (.mv), [.c (.int .i64 0)], none, 0, 0⟩])
 (.block 0 (.loop (.seq (.reg [⟨.l 14, .p (.bin .lss), [.l 13, .l 12], none, 0, 0⟩])
 (.seq (.cond (.l 14) .skip
 (.exit 0))
 (.seq (.block 1 (.seq (.reg [⟨.t 15, .p (.ixsl 1), [.l 11, .l 13], none, 0, 0⟩, ⟨.t 16, .r (.load false 1), [.t 15], none, 0, 0⟩, ⟨.l 7, .p (.mv), [.t 16], none, 0, 0⟩])
 (.seq (.reg [⟨.l 17, .p (.mv), [.l 7], none, 0, 0⟩, ⟨.l 18, .p (.leng .sl), [.l 17], none, 0, 0⟩, ⟨.l 19, .p (.mv), [.c (.int .i64 0)], none, 0, 0⟩])
 (.block 2 (.loop (.seq (.reg [⟨.l 20, .p (.bin .lss), [.l 19, .l 18], none, 0, 0⟩])
 (.seq (.cond (.l 20) .skip
 (.exit 2))
 (.seq (.block 3 (.seq (.reg [⟨.t 21, .p (.ixsl 11), [.l 17, .l 19], none, 0, 0⟩, ⟨.t 22, .r (.load true 11), [.t 21], none, 0, 0⟩, ⟨.l 9, .a (.alloc [(.int .i64 0), (.int .i64 0), (.str 0 0), (.str 0 0), .nils, .nils, .nils, .nils, .nils, .nils, (.bool false)]), [], none, 0, 0⟩, ⟨.no, .e (.store 11), [.l 9, .t 22], none, 0, 0⟩])
 (.reg [⟨.t 23, .p (.mv), [.l 0], none, 0, 0⟩, ⟨.t 24, .r (.load true 11), [.l 9], none, 0, 0⟩, ⟨.t 25, .p (.mv), [.l 2], none, 0, 0⟩, ⟨.t 26, .call 228, [.t 23, .t 24, .t 25], none, 0, 0⟩])))
 (.reg [⟨.t 27, .p (.bin .add), [.l 19, .c (.int .i64 1)], none, 0, 0⟩, ⟨.l 19, .p (.mv), [.t 27], none, 0, 0⟩])))))))))
 (.reg [⟨.t 28, .p (.bin .add), [.l 13, .c (.int .i64 1)], none, 0, 0⟩, ⟨.l 13, .p (.mv), [.t 28], none, 0, 0⟩])))))))
 (.reg [⟨.t 29, .p (.mv), [.l 0], none, 0, 0⟩, ⟨.t 30, .p (.fa 3), [.l 4], none, 0, 0⟩, ⟨.t 31, .r (.load false 1), [.t 30], none, 0, 0⟩, ⟨.t 32, .p (.mv), [.l 2], none, 0, 0⟩, ⟨.t 33, .call 229, [.t 29, .t 31, .t 32], none, 0, 0⟩]))),
 []⟩
theorem cf216_ok : compF TP Tryz.f216 = some cf216 := by kernel_rfl
def cf226 : CF := ⟨3, (.seq (.reg [⟨.t 6, .p (.mv), [.l 2], none, 0, 0⟩, ⟨.t 7, .p (.mv), [.l 1], none, 0, 0⟩, ⟨.t 8, .callv, [.t 6, .t 7], none, 0, 0⟩, ⟨.t 9, .p (.un .not), [.t 8], none, 0, 0⟩, ⟨.t 10, .p (.mv), [.t 9], none, 0, 0⟩, ⟨.t 11, .p (.mv), [.l 0], (some (.t 10, true)), 0, 0⟩, ⟨.t 12, .p (.nilc), [.t 11], (some (.t 10, true)), 0, 0⟩, ⟨.t 13, .p (.fa 0), [.t 12], (some (.t 10, true)), 0, 0⟩, ⟨.t 14, .r (.load false 1), [.t 13], (some (.t 10, true)), 0, 0⟩, ⟨.t 15, .p (.mv), [.l 1], (some (.t 10, true)), 0, 0⟩, ⟨.t 16, .r (.lookup (.one .s) false (.bool false)), [.t 14, .t 15], (some (.t 10, true)), 0, 0⟩, ⟨.t 17, .p (.pick), [.t 10, .t 16, .c (.bool false)], none, 0, 0⟩, ⟨.t 18, .p (.mv), [.t 17], none, 0, 0⟩, ⟨.t 19, .p (.mv), [.l 0], (some (.t 18, true)), 0, 0⟩, ⟨.t 20, .p (.nilc), [.t 19], (some (.t 18, true)), 0, 0⟩, ⟨.t 21, .p (.fa 1), [.t 20], (some (.t 18, true)), 0, 0⟩, ⟨.t 22, .r (.load false 1), [.t 21], (some (.t 18, true)), 0, 0⟩, ⟨.t 23, .p (.mv), [.l 1], (some (.t 18, true)), 0, 0⟩, ⟨.t 24, .call 52, [.t 22, .t 23], (some (.t 18, true)), 0, 0⟩, ⟨.t 25, .p (.un .not), [.t 24], (some (.t 18, true)), 0, 0⟩, ⟨.l 26, .p (.pick), [.t 18, .t 25, .c (.bool false)], none, 0, 0⟩])
 (.cond (.l 26) (.reg [⟨.t 27, .p (.mv), [.l 0], none, 0, 0⟩, ⟨.t 28, .p (.mv), [.l 0], none, 0, 0⟩, ⟨.t 29, .p (.nilc), [.t 28], none, 0, 0⟩, ⟨.t 30, .p (.fa 1), [.t 29], none, 0, 0⟩, ⟨.t 31, .r (.load false 1), [.t 30], none, 0, 0⟩, ⟨.t 32, .p (.mv), [.l 1], none, 0, 0⟩, ⟨.t 33, .a (.bslice [(.str 0 0)] 1 1 [(0, 1)]), [.t 32], none, 0, 0⟩, ⟨.t 34, .e (.append 1 16 none), [.t 31, .t 33], none, 0, 0⟩, ⟨.t 35, .p (.nilc), [.t 27], none, 0, 0⟩, ⟨.t 36, .p (.fa 1), [.t 35], none, 0, 0⟩, ⟨.no, .e (.store 1), [.t 36, .t 34], none, 0, 0⟩])
 .skip)),
 []⟩
theorem cf226_ok : compF TP Tryz.f226 = some cf226 := by kernel_rfl
end
end Ev
end Go.Proofs.YtchmfcjfdhokoaaGreatDoor
