/-
  The functions of the program, compiled (printed by a program of ours; each is held against the program's own text below).
-/
import Derived.Test.YtbfkbabolhhbaaaGreatDoorMnTab1
namespace Go.Proofs.YtbfkbabolhhbaaaGreatDoor
namespace Ev
noncomputable section
def cf183 : CF := ⟨2, (.seq (.reg [⟨.l 3, .a (.box), [.l 1], none, 0, 0⟩, ⟨.l 4, .p (.mv), [.c (.int .u64 0)], none, 0, 0⟩])
 (.seq (.reg [⟨.t 10, .p (.fa 6), [.l 3], none, 0, 0⟩, ⟨.t 11, .r (.load false 1), [.t 10], none, 0, 0⟩, ⟨.t 12, .p (.leng .sl), [.t 11], none, 0, 0⟩, ⟨.t 13, .a (.mks [(.int .u64 0)] 8), [.c (.int .i64 0), .t 12], none, 0, 0⟩, ⟨.l 5, .p (.mv), [.t 13], none, 0, 0⟩])
 (.seq (.seq (.reg [⟨.t 14, .p (.fa 6), [.l 3], none, 0, 0⟩, ⟨.l 15, .r (.load false 1), [.t 14], none, 0, 0⟩, ⟨.l 16, .p (.leng .sl), [.l 15], none, 0, 0⟩, ⟨.l 17, .p (.mv), [.c (.int .i64 0)], none, 0, 0⟩])
 (.block 0 (.loop (.seq (.reg [⟨.l 18, .p (.bin .lss), [.l 17, .l 16], none, 0, 0⟩])
 (.seq (.cond (.l 18) .skip
 (.exit 0))
 (.seq (.block 1 (.seq (.reg [⟨.t 19, .p (.ixsl 9), [.l 15, .l 17], none, 0, 0⟩, ⟨.t 20, .r (.load true 9), [.t 19], none, 0, 0⟩, ⟨.l 7, .a (.alloc [(.int .i64 0), (.int .i64 0), (.int .i64 0), (.str 0 0), (.str 0 0), (.int .i64 0), .nils, (.str 0 0), (.int .i64 0)]), [], none, 0, 0⟩, ⟨.no, .e (.store 9), [.l 7, .t 20], none, 0, 0⟩])
 (.reg [⟨.t 21, .p (.mv), [.l 5], none, 0, 0⟩, ⟨.t 22, .p (.mv), [.l 0], none, 0, 0⟩, ⟨.t 23, .r (.load true 9), [.l 7], none, 0, 0⟩, ⟨.t 24, .call 183, [.t 22, .t 23], none, 0, 0⟩, ⟨.t 25, .a (.bslice [(.int .u64 0)] 1 1 [(0, 1)]), [.t 24], none, 0, 0⟩, ⟨.t 26, .e (.append 1 8 none), [.t 21, .t 25], none, 0, 0⟩, ⟨.l 5, .p (.mv), [.t 26], none, 0, 0⟩])))
 (.reg [⟨.t 27, .p (.bin .add), [.l 17, .c (.int .i64 1)], none, 0, 0⟩, ⟨.l 17, .p (.mv), [.t 27], none, 0, 0⟩])))))))
 (.seq (.seq (.reg [⟨.t 28, .p (.fa 0), [.l 3], none, 0, 0⟩, ⟨.l 29, .r (.load false 1), [.t 28], none, 0, 0⟩])
 (.block 2 (.seq (.reg [⟨.t 31, .p (.bin .eql), [.l 29, .c (.int .i64 1)], none, 0, 0⟩, ⟨.l 30, .p (.mv), [.t 31], none, 0, 0⟩])
 (.cond (.l 30) (.seq (.reg [⟨.t 32, .p (.mv), [.l 0], none, 0, 0⟩, ⟨.t 33, .p (.fa 1), [.l 3], none, 0, 0⟩, ⟨.t 34, .r (.load false 1), [.t 33], none, 0, 0⟩, ⟨.t 35, .call 259, [.t 32, .t 34], none, 0, 0⟩, ⟨.l 4, .p (.mv), [.t 35], none, 0, 0⟩])
 .ret)
 (.seq (.reg [⟨.t 37, .p (.bin .eql), [.l 29, .c (.int .i64 2)], none, 0, 0⟩, ⟨.l 36, .p (.mv), [.t 37], none, 0, 0⟩])
 (.cond (.l 36) (.seq (.reg [⟨.t 38, .p (.mv), [.l 0], none, 0, 0⟩, ⟨.t 39, .p (.fa 3), [.l 3], none, 0, 0⟩, ⟨.t 40, .r (.load false 1), [.t 39], none, 0, 0⟩, ⟨.t 41, .call 208, [.t 38, .t 40], none, 0, 0⟩, ⟨.l 4, .p (.mv), [.t 41], none, 0, 0⟩])
 .ret)
 (.seq (.reg [⟨.t 43, .p (.bin .eql), [.l 29, .c (.int .i64 8)], none, 0, 0⟩, ⟨.l 42, .p (.mv), [.t 43], none, 0, 0⟩])
 (.cond (.l 42) (.seq (.reg [⟨.t 44, .call 37, [], none, 0, 0⟩, ⟨.l 4, .p (.mv), [.t 44], none, 0, 0⟩])
 .ret)
 (.seq (.reg [⟨.t 46, .p (.bin .eql), [.l 29, .c (.int .i64 9)], none, 0, 0⟩, ⟨.l 45, .p (.mv), [.t 46], none, 0, 0⟩])
 (.cond (.l 45) (.seq (.reg [⟨.t 47, .p (.mv), [.l 5], none, 0, 0⟩, ⟨.t 48, .p (.mv), [.l 5], none, 0, 0⟩, ⟨.t 49, .p (.leng .sl), [.t 48], none, 0, 0⟩, ⟨.t 50, .p (.bin .sub), [.t 49, .c (.int .i64 1)], none, 0, 0⟩, ⟨.t 51, .p (.ixsl 1), [.t 47, .t 50], none, 0, 0⟩, ⟨.t 52, .r (.load false 1), [.t 51], none, 0, 0⟩, ⟨.l 8, .p (.mv), [.t 52], none, 0, 0⟩])
 (.seq (.seq (.reg [⟨.t 53, .p (.mv), [.l 5], none, 0, 0⟩, ⟨.t 54, .p (.leng .sl), [.t 53], none, 0, 0⟩, ⟨.t 55, .p (.bin .sub), [.t 54, .c (.int .i64 2)], none, 0, 0⟩, ⟨.l 9, .p (.mv), [.t 55], none, 0, 0⟩])
 (.block 3 (.loop (.seq (.seq (.reg [⟨.t 56, .p (.mv), [.l 9], none, 0, 0⟩, ⟨.l 57, .p (.bin .geq), [.t 56, .c (.int .i64 0)], none, 0, 0⟩])
 (.cond (.l 57) .skip
 (.exit 3)))
 (.seq (.block 4 (.reg [⟨.t 60, .p (.mv), [.l 0], none, 0, 0⟩, ⟨.t 61, .p (.mv), [.l 5], none, 0, 0⟩, ⟨.t 62, .p (.mv), [.l 9], none, 0, 0⟩, ⟨.t 63, .p (.ixsl 1), [.t 61, .t 62], none, 0, 0⟩, ⟨.t 64, .r (.load false 1), [.t 63], none, 0, 0⟩, ⟨.t 65, .p (.mv), [.l 8], none, 0, 0⟩, ⟨.t 66, .call 207, [.t 60, .t 64, .t 65], none, 0, 0⟩, ⟨.l 8, .p (.mv), [.t 66], none, 0, 0⟩]))
 (.reg [⟨.t 58, .p (.mv), [.l 9], none, 0, 0⟩, ⟨.t 59, .p (.bin .sub), [.t 58, .c (.int .i64 1)], none, 0, 0⟩, ⟨.l 9, .p (.mv), [.t 59], none, 0, 0⟩]))))))
 (.seq (.reg [⟨.t 67, .p (.mv), [.l 8], none, 0, 0⟩, ⟨.l 4, .p (.mv), [.t 67], none, 0, 0⟩])
 .ret)))
 (.seq (.reg [⟨.t 69, .p (.bin .eql), [.l 29, .c (.int .i64 7)], none, 0, 0⟩, ⟨.l 68, .p (.mv), [.t 69], none, 0, 0⟩])
 (.cond (.l 68) (.seq (.reg [⟨.t 70, .p (.mv), [.l 0], none, 0, 0⟩, ⟨.t 71, .p (.mv), [.l 5], none, 0, 0⟩, ⟨.t 72, .call 206, [.t 70, .c (.int .i64 1), .t 71], none, 0, 0⟩, ⟨.l 4, .p (.mv), [.t 72], none, 0, 0⟩])
 .ret)
 (.seq (.reg [⟨.t 74, .p (.bin .eql), [.l 29, .c (.int .i64 4)], none, 0, 0⟩, ⟨.l 73, .p (.mv), [.t 74], none, 0, 0⟩])
 (.cond (.l 73) (.seq (.regD [⟨.t 75, .p (.mv), [.l 0], none, 0, 5⟩, ⟨.t 76, .p (.mv), [.l 0], none, 0, 0⟩, ⟨.t 77, .p (.fa 3), [.l 3], none, 0, 0⟩, ⟨.t 78, .r (.load false 1), [.t 77], none, 0, 0⟩, ⟨.t 80, .p (.fa 2), [.l 3], none, 0, 1⟩, ⟨.t 81, .r (.load false 1), [.t 80], none, 0, 1⟩, ⟨.t 83, .p (.fa 1), [.l 3], none, 0, 2⟩, ⟨.t 84, .r (.load false 1), [.t 83], none, 0, 2⟩, ⟨.t 86, .p (.fa 5), [.l 3], none, 0, 3⟩, ⟨.t 87, .r (.load false 1), [.t 86], none, 0, 3⟩, ⟨.t 90, .p (.mv), [.l 5], none, 0, 4⟩, ⟨.t 79, .call 208, [.t 76, .t 78], none, 0, 1⟩, ⟨.t 82, .call 209, [.t 81], none, 1, 2⟩, ⟨.t 85, .call 209, [.t 84], none, 2, 3⟩, ⟨.t 88, .call 209, [.t 87], none, 3, 4⟩, ⟨.t 89, .a (.bslice [(.int .u64 0)] 4 1 [(0, 1), (1, 1), (2, 1), (3, 1)]), [.t 79, .t 82, .t 85, .t 88], none, 4, 4⟩, ⟨.t 91, .e (.append 1 8 none), [.t 89, .t 90], none, 4, 5⟩, ⟨.t 92, .call 206, [.t 75, .c (.int .i64 2), .t 91], none, 5, 6⟩, ⟨.l 4, .p (.mv), [.t 92], none, 6, 6⟩])
 .ret)
 (.seq (.reg [⟨.t 94, .p (.bin .eql), [.l 29, .c (.int .i64 5)], none, 0, 0⟩, ⟨.l 93, .p (.mv), [.t 94], none, 0, 0⟩])
 (.cond (.l 93) (.seq (.regD [⟨.t 95, .p (.mv), [.l 0], none, 0, 3⟩, ⟨.t 96, .p (.mv), [.l 0], none, 0, 0⟩, ⟨.t 97, .p (.fa 3), [.l 3], none, 0, 0⟩, ⟨.t 98, .r (.load false 1), [.t 97], none, 0, 0⟩, ⟨.t 100, .p (.mv), [.l 0], none, 0, 1⟩, ⟨.t 101, .p (.fa 4), [.l 3], none, 0, 1⟩, ⟨.t 102, .r (.load false 1), [.t 101], none, 0, 1⟩, ⟨.t 104, .p (.fa 5), [.l 3], none, 0, 2⟩, ⟨.t 105, .r (.load false 1), [.t 104], none, 0, 2⟩, ⟨.t 99, .call 208, [.t 96, .t 98], none, 0, 1⟩, ⟨.t 103, .call 208, [.t 100, .t 102], none, 1, 2⟩, ⟨.t 106, .call 209, [.t 105], none, 2, 3⟩, ⟨.t 107, .a (.bslice [(.int .u64 0)] 3 1 [(0, 1), (1, 1), (2, 1)]), [.t 99, .t 103, .t 106], none, 3, 3⟩, ⟨.t 108, .call 206, [.t 95, .c (.int .i64 3), .t 107], none, 3, 4⟩, ⟨.l 4, .p (.mv), [.t 108], none, 4, 4⟩])
 .ret)
 (.seq (.reg [⟨.t 110, .p (.bin .eql), [.l 29, .c (.int .i64 6)], none, 0, 0⟩, ⟨.l 109, .p (.mv), [.t 110], none, 0, 0⟩])
 (.cond (.l 109) (.seq (.regD [⟨.t 111, .p (.mv), [.l 0], none, 0, 3⟩, ⟨.t 112, .p (.mv), [.l 0], none, 0, 0⟩, ⟨.t 113, .p (.fa 3), [.l 3], none, 0, 0⟩, ⟨.t 114, .r (.load false 1), [.t 113], none, 0, 0⟩, ⟨.t 116, .p (.fa 2), [.l 3], none, 0, 1⟩, ⟨.t 117, .r (.load false 1), [.t 116], none, 0, 1⟩, ⟨.t 119, .p (.fa 1), [.l 3], none, 0, 2⟩, ⟨.t 120, .r (.load false 1), [.t 119], none, 0, 2⟩, ⟨.t 115, .call 208, [.t 112, .t 114], none, 0, 1⟩, ⟨.t 118, .call 209, [.t 117], none, 1, 2⟩, ⟨.t 121, .call 209, [.t 120], none, 2, 3⟩, ⟨.t 122, .a (.bslice [(.int .u64 0)] 3 1 [(0, 1), (1, 1), (2, 1)]), [.t 115, .t 118, .t 121], none, 3, 3⟩, ⟨.t 123, .call 206, [.t 111, .c (.int .i64 4), .t 122], none, 3, 4⟩, ⟨.l 4, .p (.mv), [.t 123], none, 4, 4⟩])
 .ret)
 (.seq (.reg [⟨.t 125, .p (.bin .eql), [.l 29, .c (.int .i64 3)], none, 0, 0⟩, ⟨.l 124, .p (.mv), [.t 125], none, 0, 0⟩])
 (.cond (.l 124) (.seq (.regD [⟨.t 126, .p (.mv), [.l 0], none, 0, 3⟩, ⟨.t 127, .p (.mv), [.l 0], none, 0, 0⟩, ⟨.t 128, .p (.fa 3), [.l 3], none, 0, 0⟩, ⟨.t 129, .r (.load false 1), [.t 128], none, 0, 0⟩, ⟨.t 131, .p (.fa 2), [.l 3], none, 0, 1⟩, ⟨.t 132, .r (.load false 1), [.t 131], none, 0, 1⟩, ⟨.t 134, .p (.fa 1), [.l 3], none, 0, 2⟩, ⟨.t 135, .r (.load false 1), [.t 134], none, 0, 2⟩, ⟨.t 130, .call 208, [.t 127, .t 129], none, 0, 1⟩, ⟨.t 133, .call 209, [.t 132], none, 1, 2⟩, ⟨.t 136, .call 209, [.t 135], none, 2, 3⟩, ⟨.t 137, .a (.bslice [(.int .u64 0)] 3 1 [(0, 1), (1, 1), (2, 1)]), [.t 130, .t 133, .t 136], none, 3, 3⟩, ⟨.t 138, .call 206, [.t 126, .c (.int .i64 5), .t 137], none, 3, 4⟩, ⟨.l 4, .p (.mv), [.t 138], none, 4, 4⟩])
 .ret)
 .skip))))))))))))))))))))
 (.seq (.reg [⟨.t 139, .p (.mv), [.l 0], none, 0, 0⟩, ⟨.t 140, .p (.fa 7), [.l 3], none, 0, 0⟩, ⟨.t 141, .r (.load false 1), [.t 140], none, 0, 0⟩, ⟨.t 142, .p (.fa 8), [.l 3], none, 0, 0⟩, ⟨.t 143, .r (.load false 1), [.t 142], none, 0, 0⟩, ⟨.t 144, .p (.build [(.str 0 0), (.int .i64 0)] [(0, 1), (1, 1)]), [.t 141, .t 143], none, 0, 0⟩, ⟨.t 145, .call 223, [.t 139, .t 144], none, 0, 0⟩, ⟨.l 4, .p (.mv), [.t 145], none, 0, 0⟩])
 .ret))))),
 [.tmp (.l 4)]⟩
theorem cf183_ok : compF TP Tryz.f183 = some cf183 := by kernel_rfl
def cf184 : CF := ⟨2, (.seq (.reg [⟨.l 4, .a (.alloc [(.int .i64 0), (.int .i64 0), (.int .i64 0), (.str 0 0), (.str 0 0), (.int .i64 0), .nils, (.str 0 0), (.int .i64 0)]), [], none, 0, 0⟩, ⟨.l 5, .p (.mv), [.c (.int .i64 0)], none, 0, 0⟩])
 (.seq (.seq (.reg [⟨.t 6, .p (.mv), [.l 0], none, 0, 0⟩, ⟨.t 7, .call 104, [.t 6], none, 0, 0⟩, ⟨.l 8, .p (.un .not), [.t 7], none, 0, 0⟩])
 (.cond (.l 8) (.seq (.reg [⟨.t 9, .p (.build [(.int .i64 0), (.int .i64 0), (.int .i64 0), (.str 0 0), (.str 0 0), (.int .i64 0), .nils, (.str 0 0), (.int .i64 0)] []), [], none, 0, 0⟩, ⟨.no, .e (.store 9), [.l 4, .t 9], none, 0, 0⟩, ⟨.l 5, .p (.mv), [.c (.int .i64 1)], none, 0, 0⟩])
 .ret)
 .skip))
 (.seq (.seq (.reg [⟨.t 10, .p (.mv), [.l 0], none, 0, 0⟩, ⟨.t 11, .p (.mv), [.l 1], none, 0, 0⟩, ⟨.t 12, .call 186, [.t 10, .t 11], none, 0, 0⟩, ⟨.l 13, .p (.un .not), [.t 12], none, 0, 0⟩])
 (.cond (.l 13) (.seq (.reg [⟨.t 14, .p (.build [(.int .i64 0), (.int .i64 0), (.int .i64 0), (.str 0 0), (.str 0 0), (.int .i64 0), .nils, (.str 0 0), (.int .i64 0)] []), [], none, 0, 0⟩, ⟨.no, .e (.store 9), [.l 4, .t 14], none, 0, 0⟩, ⟨.l 5, .p (.mv), [.c (.int .i64 6)], none, 0, 0⟩])
 .ret)
 .skip))
 (.seq (.reg [⟨.t 15, .p (.mv), [.l 0], none, 0, 0⟩, ⟨.t 16, .p (.mv), [.l 1], none, 0, 0⟩, ⟨.t 17, .call 212, [.t 15, .t 16], none, 0, 0⟩, ⟨.no, .e (.store 9), [.l 4, .t 17], none, 0, 0⟩, ⟨.l 5, .p (.mv), [.c (.int .i64 0)], none, 0, 0⟩])
 .ret)))),
 [.cell (.l 4) true 9, .tmp (.l 5)]⟩
theorem cf184_ok : compF TP Tryz.f184 = some cf184 := by kernel_rfl
def cf186 : CF := ⟨2, (.seq (.reg [⟨.l 4, .p (.mv), [.c (.bool false)], none, 0, 0⟩])
 (.seq (.seq (.reg [⟨.t 7, .p (.mv), [.l 0], none, 0, 0⟩, ⟨.t 8, .call 104, [.t 7], none, 0, 0⟩, ⟨.t 9, .p (.un .not), [.t 8], none, 0, 0⟩, ⟨.t 10, .p (.mv), [.t 9], none, 0, 0⟩, ⟨.t 11, .p (.mv), [.l 0], (some (.t 10, false)), 0, 0⟩, ⟨.t 12, .p (.nilc), [.t 11], (some (.t 10, false)), 0, 0⟩, ⟨.t 13, .p (.fa 0), [.t 12], (some (.t 10, false)), 0, 0⟩, ⟨.t 14, .p (.mv), [.l 1], (some (.t 10, false)), 0, 0⟩, ⟨.t 15, .call 260, [.t 13, .t 14], (some (.t 10, false)), 0, 0⟩, ⟨.t 16, .p (.un .not), [.t 15], (some (.t 10, false)), 0, 0⟩, ⟨.l 17, .p (.pick), [.t 10, .c (.bool true), .t 16], none, 0, 0⟩])
 (.cond (.l 17) (.seq (.reg [⟨.l 4, .p (.mv), [.c (.bool false)], none, 0, 0⟩])
 .ret)
 .skip))
 (.seq (.reg [⟨.t 19, .p (.mv), [.l 1], none, 0, 0⟩, ⟨.t 20, .call 188, [.t 19], none, 0, 0⟩, ⟨.t 18, .p (.mv), [.t 20], none, 0, 0⟩, ⟨.t 21, .p (.ext 0), [.t 18], none, 0, 0⟩, ⟨.t 22, .p (.ext 1), [.t 18], none, 0, 0⟩, ⟨.l 5, .p (.mv), [.t 21], none, 0, 0⟩, ⟨.l 6, .p (.mv), [.t 22], none, 0, 0⟩])
 (.seq (.reg [⟨.t 23, .p (.mv), [.l 6], none, 0, 0⟩, ⟨.t 24, .p (.un .not), [.t 23], none, 0, 0⟩, ⟨.t 25, .p (.mv), [.t 24], none, 0, 0⟩, ⟨.t 26, .p (.mv), [.l 5], (some (.t 25, false)), 0, 0⟩, ⟨.t 27, .p (.mv), [.l 0], (some (.t 25, false)), 0, 0⟩, ⟨.t 28, .p (.nilc), [.t 27], (some (.t 25, false)), 0, 0⟩, ⟨.t 29, .p (.fa 6), [.t 28], (some (.t 25, false)), 0, 0⟩, ⟨.t 30, .r (.load false 1), [.t 29], (some (.t 25, false)), 0, 0⟩, ⟨.t 31, .call 261, [.t 30], (some (.t 25, false)), 0, 0⟩, ⟨.t 32, .p (.bin .lss), [.t 26, .t 31], (some (.t 25, false)), 0, 0⟩, ⟨.t 33, .p (.pick), [.t 25, .c (.bool true), .t 32], none, 0, 0⟩, ⟨.l 4, .p (.mv), [.t 33], none, 0, 0⟩])
 .ret)))),
 [.tmp (.l 4)]⟩
theorem cf186_ok : compF TP Tryz.f186 = some cf186 := by kernel_rfl
def cf187 : CF := ⟨1, (.seq (.reg [⟨.l 2, .p (.mv), [.c (.int .i64 0)], none, 0, 0⟩, ⟨.l 3, .p (.mv), [.c (.bool false)], none, 0, 0⟩])
 (.seq (.seq (.reg [⟨.t 4, .p (.mv), [.l 0], none, 0, 0⟩, ⟨.t 5, .call 262, [.t 4], none, 0, 0⟩, ⟨.l 6, .p (.bin .neq), [.t 5, .c (.int .i64 3)], none, 0, 0⟩])
 (.cond (.l 6) (.seq (.reg [⟨.l 2, .p (.mv), [.c (.int .i64 0)], none, 0, 0⟩, ⟨.l 3, .p (.mv), [.c (.bool false)], none, 0, 0⟩])
 .ret)
 .skip))
 (.seq (.reg [⟨.t 7, .p (.mv), [.l 0], none, 0, 0⟩, ⟨.t 8, .p (.toInt .i64), [.t 7], none, 0, 0⟩, ⟨.t 9, .p (.bin .shr), [.t 8, .c (.int .u64 4)], none, 0, 0⟩, ⟨.l 2, .p (.mv), [.t 9], none, 0, 0⟩, ⟨.l 3, .p (.mv), [.c (.bool true)], none, 0, 0⟩])
 .ret))),
 [.tmp (.l 2), .tmp (.l 3)]⟩
theorem cf187_ok : compF TP Tryz.f187 = some cf187 := by kernel_rfl
def cf188 : CF := ⟨1, (.seq (.reg [⟨.l 2, .p (.mv), [.c (.int .i64 0)], none, 0, 0⟩, ⟨.l 3, .p (.mv), [.c (.bool false)], none, 0, 0⟩])
 (.seq (.seq (.reg [⟨.t 4, .p (.mv), [.l 0], none, 0, 0⟩, ⟨.t 5, .call 262, [.t 4], none, 0, 0⟩, ⟨.t 6, .p (.bin .neq), [.t 5, .c (.int .i64 7)], none, 0, 0⟩, ⟨.t 7, .p (.mv), [.t 6], none, 0, 0⟩, ⟨.t 8, .p (.mv), [.l 0], (some (.t 7, false)), 0, 0⟩, ⟨.t 9, .p (.bin .shr), [.t 8, .c (.int .u64 4)], (some (.t 7, false)), 0, 0⟩, ⟨.t 10, .p (.bin .gtr), [.t 9, .c (.int .u64 2147483647)], (some (.t 7, false)), 0, 0⟩, ⟨.l 11, .p (.pick), [.t 7, .c (.bool true), .t 10], none, 0, 0⟩])
 (.cond (.l 11) (.seq (.reg [⟨.l 2, .p (.mv), [.c (.int .i64 0)], none, 0, 0⟩, ⟨.l 3, .p (.mv), [.c (.bool false)], none, 0, 0⟩])
 .ret)
 .skip))
 (.seq (.reg [⟨.t 12, .p (.mv), [.l 0], none, 0, 0⟩, ⟨.t 13, .p (.bin .shr), [.t 12, .c (.int .u64 4)], none, 0, 0⟩, ⟨.t 14, .p (.toInt .i64), [.t 13], none, 0, 0⟩, ⟨.l 2, .p (.mv), [.t 14], none, 0, 0⟩, ⟨.l 3, .p (.mv), [.c (.bool true)], none, 0, 0⟩])
 .ret))),
 [.tmp (.l 2), .tmp (.l 3)]⟩
theorem cf188_ok : compF TP Tryz.f188 = some cf188 := by kernel_rfl
def cf189 : CF := ⟨1, (.seq (.reg [⟨.l 2, .p (.mv), [.c (.bool false)], none, 0, 0⟩, ⟨.l 3, .p (.mv), [.c (.int .i64 0)], none, 0, 0⟩, ⟨.l 4, .p (.mv), [.c (.bool false)], none, 0, 0⟩])
 (.seq (.seq (.reg [⟨.t 6, .p (.mv), [.l 0], none, 0, 0⟩, ⟨.t 7, .call 192, [.t 6], none, 0, 0⟩, ⟨.l 5, .p (.mv), [.t 7], none, 0, 0⟩])
 (.seq (.reg [⟨.t 8, .p (.mv), [.l 5], none, 0, 0⟩, ⟨.t 9, .p (.bin .neq), [.t 8, .c (.int .i64 1)], none, 0, 0⟩, ⟨.t 10, .p (.mv), [.t 9], none, 0, 0⟩, ⟨.t 11, .p (.mv), [.l 5], (some (.t 10, true)), 0, 0⟩, ⟨.t 12, .p (.bin .neq), [.t 11, .c (.int .i64 2)], (some (.t 10, true)), 0, 0⟩, ⟨.t 13, .p (.pick), [.t 10, .t 12, .c (.bool false)], none, 0, 0⟩, ⟨.t 14, .p (.mv), [.t 13], none, 0, 0⟩, ⟨.t 15, .p (.mv), [.l 0], (some (.t 14, false)), 0, 0⟩, ⟨.t 16, .p (.bin .shr), [.t 15, .c (.int .u64 3)], (some (.t 14, false)), 0, 0⟩, ⟨.t 17, .p (.bin .gtr), [.t 16, .c (.int .u64 2147483647)], (some (.t 14, false)), 0, 0⟩, ⟨.l 18, .p (.pick), [.t 14, .c (.bool true), .t 17], none, 0, 0⟩])
 (.cond (.l 18) (.seq (.reg [⟨.l 2, .p (.mv), [.c (.bool false)], none, 0, 0⟩, ⟨.l 3, .p (.mv), [.c (.int .i64 0)], none, 0, 0⟩, ⟨.l 4, .p (.mv), [.c (.bool false)], none, 0, 0⟩])
 .ret)
 .skip)))
 (.seq (.reg [⟨.t 19, .p (.mv), [.l 0], none, 0, 0⟩, ⟨.t 20, .p (.bin .and), [.t 19, .c (.int .u64 4)], none, 0, 0⟩, ⟨.t 21, .p (.bin .neq), [.t 20, .c (.int .u64 0)], none, 0, 0⟩, ⟨.t 22, .p (.mv), [.l 0], none, 0, 0⟩, ⟨.t 23, .p (.bin .shr), [.t 22, .c (.int .u64 3)], none, 0, 0⟩, ⟨.t 24, .p (.toInt .i64), [.t 23], none, 0, 0⟩, ⟨.l 2, .p (.mv), [.t 21], none, 0, 0⟩, ⟨.l 3, .p (.mv), [.t 24], none, 0, 0⟩, ⟨.l 4, .p (.mv), [.c (.bool true)], none, 0, 0⟩])
 .ret))),
 [.tmp (.l 2), .tmp (.l 3), .tmp (.l 4)]⟩
theorem cf189_ok : compF TP Tryz.f189 = some cf189 := by kernel_rfl
def cf190 : CF := ⟨2, (.seq (.reg [⟨.l 4, .p (.mv), [.c .nilp], none, 0, 0⟩])
 (.seq (.seq (.reg [⟨.l 5, .p (.mv), [.l 1], none, 0, 0⟩])
 (.cond (.l 5) (.seq (.reg [⟨.t 6, .p (.mv), [.l 0], none, 0, 0⟩, ⟨.t 7, .p (.nilc), [.t 6], none, 0, 0⟩, ⟨.t 8, .p (.fa 2), [.t 7], none, 0, 0⟩, ⟨.l 4, .p (.mv), [.t 8], none, 0, 0⟩])
 .ret)
 .skip))
 (.seq (.reg [⟨.t 9, .p (.mv), [.l 0], none, 0, 0⟩, ⟨.t 10, .p (.nilc), [.t 9], none, 0, 0⟩, ⟨.t 11, .p (.fa 0), [.t 10], none, 0, 0⟩, ⟨.l 4, .p (.mv), [.t 11], none, 0, 0⟩])
 .ret))),
 [.tmp (.l 4)]⟩
theorem cf190_ok : compF TP Tryz.f190 = some cf190 := by kernel_rfl
def cf192 : CF := ⟨1, (.seq (.reg [⟨.l 2, .p (.mv), [.c (.int .i64 0)], none, 0, 0⟩])
 (.seq (.reg [⟨.t 3, .p (.mv), [.l 0], none, 0, 0⟩, ⟨.t 4, .p (.bin .and), [.t 3, .c (.int .u64 3)], none, 0, 0⟩, ⟨.t 5, .p (.toInt .i64), [.t 4], none, 0, 0⟩, ⟨.l 2, .p (.mv), [.t 5], none, 0, 0⟩])
 .ret)),
 [.tmp (.l 2)]⟩
theorem cf192_ok : compF TP Tryz.f192 = some cf192 := by kernel_rfl
def cf193 : CF := ⟨2, (.seq (.reg [⟨.l 4, .p (.mv), [.c (.bool false)], none, 0, 0⟩])
 (.seq (.reg [⟨.t 5, .p (.mv), [.l 0], none, 0, 0⟩, ⟨.t 6, .p (.mv), [.l 1], none, 0, 0⟩, ⟨.t 7, .call 264, [.t 5, .t 6], none, 0, 0⟩, ⟨.t 8, .p (.bin .geq), [.t 7, .c (.int .i64 0)], none, 0, 0⟩, ⟨.l 4, .p (.mv), [.t 8], none, 0, 0⟩])
 .ret)),
 [.tmp (.l 4)]⟩
theorem cf193_ok : compF TP Tryz.f193 = some cf193 := by kernel_rfl
def cf194 : CF := ⟨2, (.seq (.reg [⟨.l 3, .p (.mv), [.c (.bool false)], none, 0, 0⟩])
 (.seq (.reg [⟨.t 4, .r (.load false 1), [.l 1], none, 0, 0⟩, ⟨.t 5, .p (.nilc), [.t 4], none, 0, 0⟩, ⟨.t 6, .p (.fa 0), [.t 5], none, 0, 0⟩, ⟨.t 7, .r (.load false 1), [.t 6], none, 0, 0⟩, ⟨.t 8, .p (.mv), [.l 0], none, 0, 0⟩, ⟨.t 9, .call 126, [.t 7, .t 8], none, 0, 0⟩, ⟨.t 10, .p (.bin .eql), [.t 9, .c (.int .i64 0)], none, 0, 0⟩, ⟨.l 3, .p (.mv), [.t 10], none, 0, 0⟩])
 .ret)),
 [.tmp (.l 3)]⟩
theorem cf194_ok : compF TP Tryz.f194 = some cf194 := by kernel_rfl
def cf195 : CF := ⟨3, (.seq (.reg [⟨.l 4, .a (.box), [.l 1], none, 0, 0⟩, ⟨.l 6, .a (.alloc [.nils, .nils, (.int .i64 0)]), [], none, 0, 0⟩, ⟨.l 7, .p (.mv), [.c .nils], none, 0, 0⟩, ⟨.l 8, .p (.mv), [.c (.int .i64 0)], none, 0, 0⟩])
 (.seq (.reg [⟨.t 9, .p (.mv), [.l 0], none, 0, 0⟩, ⟨.t 10, .p (.nilc), [.t 9], none, 0, 0⟩, ⟨.t 11, .p (.fa 4), [.t 10], none, 0, 0⟩, ⟨.t 12, .r (.load false 1), [.t 11], none, 0, 0⟩, ⟨.t 13, .p (.bin .add), [.t 12, .c (.int .i64 1)], none, 0, 0⟩, ⟨.t 14, .p (.nilc), [.t 9], none, 0, 0⟩, ⟨.t 15, .p (.fa 4), [.t 14], none, 0, 0⟩, ⟨.no, .e (.store 1), [.t 15, .t 13], none, 0, 0⟩])
 (.seq (.reg [⟨.t 16, .p (.mv), [.l 0], none, 0, 0⟩, ⟨.t 17, .p (.nilc), [.t 16], none, 0, 0⟩, ⟨.t 18, .p (.fa 6), [.t 17], none, 0, 0⟩, ⟨.t 19, .r (.load false 1), [.t 18], none, 0, 0⟩, ⟨.t 20, .p (.bin .add), [.t 19, .c (.int .i64 1)], none, 0, 0⟩, ⟨.t 21, .p (.nilc), [.t 16], none, 0, 0⟩, ⟨.t 22, .p (.fa 6), [.t 21], none, 0, 0⟩, ⟨.no, .e (.store 1), [.t 22, .t 20], none, 0, 0⟩])
 (.seq (.reg [⟨.t 23, .r (.load true 3), [.l 4], none, 0, 0⟩, ⟨.t 24, .p (.mv), [.l 2], none, 0, 0⟩, ⟨.t 25, .call 265, [.t 23, .t 24], none, 0, 0⟩, ⟨.t 26, .p (.ext 0), [.t 25], none, 0, 0⟩, ⟨.t 27, .p (.ext 1), [.t 25], none, 0, 0⟩, ⟨.t 28, .p (.ext 2), [.t 25], none, 0, 0⟩, ⟨.no, .e (.store 3), [.l 6, .t 26], none, 0, 0⟩, ⟨.l 7, .p (.mv), [.t 27], none, 0, 0⟩, ⟨.l 8, .p (.mv), [.t 28], none, 0, 0⟩])
 .ret)))),
 [.cell (.l 6) true 3, .tmp (.l 7), .tmp (.l 8)]⟩
theorem cf195_ok : compF TP Tryz.f195 = some cf195 := by kernel_rfl
def cf196 : CF := ⟨3, (.seq (.reg [⟨.l 4, .a (.box), [.l 1], none, 0, 0⟩, ⟨.l 6, .a (.alloc [.nils, .nils, (.int .i64 0)]), [], none, 0, 0⟩, ⟨.l 7, .p (.mv), [.c .nils], none, 0, 0⟩, ⟨.l 8, .p (.mv), [.c (.int .i64 0)], none, 0, 0⟩])
 (.seq (.reg [⟨.t 9, .p (.mv), [.l 0], none, 0, 0⟩, ⟨.t 10, .p (.nilc), [.t 9], none, 0, 0⟩, ⟨.t 11, .p (.fa 5), [.t 10], none, 0, 0⟩, ⟨.t 12, .r (.load false 1), [.t 11], none, 0, 0⟩, ⟨.t 13, .p (.bin .add), [.t 12, .c (.int .i64 1)], none, 0, 0⟩, ⟨.t 14, .p (.nilc), [.t 9], none, 0, 0⟩, ⟨.t 15, .p (.fa 5), [.t 14], none, 0, 0⟩, ⟨.no, .e (.store 1), [.t 15, .t 13], none, 0, 0⟩])
 (.seq (.reg [⟨.t 16, .p (.mv), [.l 0], none, 0, 0⟩, ⟨.t 17, .p (.nilc), [.t 16], none, 0, 0⟩, ⟨.t 18, .p (.fa 6), [.t 17], none, 0, 0⟩, ⟨.no, .e (.store 1), [.t 18, .c (.int .i64 0)], none, 0, 0⟩])
 (.seq (.reg [⟨.t 19, .r (.load true 3), [.l 4], none, 0, 0⟩, ⟨.t 20, .p (.mv), [.l 2], none, 0, 0⟩, ⟨.t 21, .call 266, [.t 19, .t 20], none, 0, 0⟩, ⟨.t 22, .p (.ext 0), [.t 21], none, 0, 0⟩, ⟨.t 23, .p (.ext 1), [.t 21], none, 0, 0⟩, ⟨.t 24, .p (.ext 2), [.t 21], none, 0, 0⟩, ⟨.no, .e (.store 3), [.l 6, .t 22], none, 0, 0⟩, ⟨.l 7, .p (.mv), [.t 23], none, 0, 0⟩, ⟨.l 8, .p (.mv), [.t 24], none, 0, 0⟩])
 .ret)))),
 [.cell (.l 6) true 3, .tmp (.l 7), .tmp (.l 8)]⟩
theorem cf196_ok : compF TP Tryz.f196 = some cf196 := by kernel_rfl
def cf197 : CF := ⟨1, (.seq (.reg [⟨.l 2, .a (.alloc [.nils, .nils, (.int .i64 0)]), [], none, 0, 0⟩])
 (.seq (.seq (.reg [⟨.t 3, .p (.mv), [.l 0], none, 0, 0⟩, ⟨.t 4, .call 104, [.t 3], none, 0, 0⟩, ⟨.l 5, .p (.un .not), [.t 4], none, 0, 0⟩])
 (.cond (.l 5) (.seq (.reg [⟨.t 6, .p (.build [.nils, .nils, (.int .i64 0)] []), [], none, 0, 0⟩, ⟨.no, .e (.store 3), [.l 2, .t 6], none, 0, 0⟩])
 .ret)
 .skip))
 (.seq (.regD [⟨.t 7, .p (.mv), [.l 0], none, 0, 0⟩, ⟨.t 8, .p (.nilc), [.t 7], none, 0, 0⟩, ⟨.t 9, .p (.fa 0), [.t 8], none, 0, 0⟩, ⟨.t 10, .p (.fa 0), [.t 9], none, 0, 0⟩, ⟨.t 11, .p (.fa 0), [.t 10], none, 0, 0⟩, ⟨.t 12, .r (.load false 1), [.t 11], none, 0, 0⟩, ⟨.t 14, .p (.mv), [.l 0], none, 0, 1⟩, ⟨.t 15, .p (.nilc), [.t 14], none, 0, 1⟩, ⟨.t 16, .p (.fa 0), [.t 15], none, 0, 1⟩, ⟨.t 17, .p (.fa 2), [.t 16], none, 0, 1⟩, ⟨.t 18, .p (.fa 0), [.t 17], none, 0, 1⟩, ⟨.t 19, .r (.load false 1), [.t 18], none, 0, 1⟩, ⟨.t 21, .p (.mv), [.l 0], none, 0, 2⟩, ⟨.t 22, .p (.nilc), [.t 21], none, 0, 2⟩, ⟨.t 23, .p (.fa 4), [.t 22], none, 0, 2⟩, ⟨.t 24, .r (.load false 1), [.t 23], none, 0, 2⟩, ⟨.t 13, .call 216, [.t 12], none, 0, 1⟩, ⟨.t 20, .call 216, [.t 19], none, 1, 2⟩, ⟨.t 25, .p (.build [.nils, .nils, (.int .i64 0)] [(0, 1), (1, 1), (2, 1)]), [.t 13, .t 20, .t 24], none, 2, 2⟩, ⟨.no, .e (.store 3), [.l 2, .t 25], none, 2, 3⟩])
 .ret))),
 [.cell (.l 2) true 3]⟩
theorem cf197_ok : compF TP Tryz.f197 = some cf197 := by kernel_rfl
def cf198 : CF := ⟨3, (.seq (.reg [⟨.l 4, .a (.box), [.l 1], none, 0, 0⟩, ⟨.l 6, .p (.mv), [.c (.int .i64 0)], none, 0, 0⟩])
 (.seq (.seq (.reg [⟨.t 11, .p (.mv), [.l 0], none, 0, 0⟩, ⟨.t 12, .call 104, [.t 11], none, 0, 0⟩, ⟨.l 13, .p (.un .not), [.t 12], none, 0, 0⟩])
 (.cond (.l 13) (.seq (.reg [⟨.l 6, .p (.mv), [.c (.int .i64 1)], none, 0, 0⟩])
 .ret)
 .skip))
 (.seq (.seq (.reg [⟨.t 14, .p (.mv), [.l 2], none, 0, 0⟩, ⟨.t 15, .p (.fa 0), [.l 4], none, 0, 0⟩, ⟨.t 16, .r (.load false 1), [.t 15], none, 0, 0⟩, ⟨.t 17, .p (.leng .sl), [.t 16], none, 0, 0⟩, ⟨.t 18, .p (.bin .lss), [.t 14, .t 17], none, 0, 0⟩, ⟨.t 19, .p (.mv), [.t 18], none, 0, 0⟩, ⟨.t 20, .p (.mv), [.l 2], (some (.t 19, false)), 0, 0⟩, ⟨.t 21, .p (.bin .lss), [.t 20, .c (.int .i64 1)], (some (.t 19, false)), 0, 0⟩, ⟨.t 22, .p (.pick), [.t 19, .c (.bool true), .t 21], none, 0, 0⟩, ⟨.t 23, .p (.mv), [.t 22], none, 0, 0⟩, ⟨.t 24, .p (.mv), [.l 2], (some (.t 23, false)), 0, 0⟩, ⟨.t 25, .p (.bin .gtr), [.t 24, .c (.int .i64 2147483647)], (some (.t 23, false)), 0, 0⟩, ⟨.l 26, .p (.pick), [.t 23, .c (.bool true), .t 25], none, 0, 0⟩])
 (.cond (.l 26) (.seq (.reg [⟨.l 6, .p (.mv), [.c (.int .i64 2)], none, 0, 0⟩])
 .ret)
 .skip))
 (.seq (.regD [⟨.t 28, .p (.fa 0), [.l 4], none, 0, 0⟩, ⟨.t 29, .r (.load false 1), [.t 28], none, 0, 0⟩, ⟨.t 31, .p (.fa 1), [.l 4], none, 0, 1⟩, ⟨.t 32, .r (.load false 1), [.t 31], none, 0, 1⟩, ⟨.t 34, .p (.fa 2), [.l 4], none, 0, 2⟩, ⟨.t 35, .r (.load false 1), [.t 34], none, 0, 2⟩, ⟨.l 7, .a (.alloc [.nils, .nils, .nils, .nils]), [], none, 0, 3⟩, ⟨.t 30, .call 216, [.t 29], none, 0, 1⟩, ⟨.t 33, .call 216, [.t 32], none, 1, 2⟩, ⟨.t 36, .p (.build [.nils, .nils, (.int .i64 0)] [(0, 1), (1, 1), (2, 1)]), [.t 30, .t 33, .t 35], none, 2, 2⟩, ⟨.t 37, .call 267, [.t 36], none, 2, 3⟩, ⟨.t 27, .p (.mv), [.t 37], none, 3, 3⟩, ⟨.t 38, .p (.ext 0), [.t 27], none, 3, 3⟩, ⟨.t 39, .p (.ext 1), [.t 27], none, 3, 4⟩, ⟨.no, .e (.store 4), [.l 7, .t 38], none, 3, 4⟩, ⟨.l 8, .p (.mv), [.t 39], none, 4, 4⟩])
 (.seq (.seq (.reg [⟨.t 40, .p (.mv), [.l 8], none, 0, 0⟩, ⟨.t 41, .p (.un .not), [.t 40], none, 0, 0⟩, ⟨.t 42, .p (.mv), [.t 41], none, 0, 0⟩, ⟨.t 43, .p (.mv), [.l 0], (some (.t 42, false)), 0, 0⟩, ⟨.t 44, .call 268, [.t 43, .l 7], (some (.t 42, false)), 0, 0⟩, ⟨.t 45, .p (.un .not), [.t 44], (some (.t 42, false)), 0, 0⟩, ⟨.l 46, .p (.pick), [.t 42, .c (.bool true), .t 45], none, 0, 0⟩])
 (.cond (.l 46) (.seq (.reg [⟨.l 6, .p (.mv), [.c (.int .i64 6)], none, 0, 0⟩])
 .ret)
 .skip))
 (.seq (.seq (.reg [⟨.l 47, .call 166, [.l 7], none, 0, 0⟩, ⟨.l 48, .p (.leng .sl), [.l 47], none, 0, 0⟩, ⟨.l 49, .p (.mv), [.c (.int .i64 0)], none, 0, 0⟩])
 (.block 0 (.loop (.seq (.reg [⟨.l 50, .p (.bin .lss), [.l 49, .l 48], none, 0, 0⟩])
 (.seq (.cond (.l 50) .skip
 (.exit 0))
 (.seq (.block 1 (.seq (.reg [⟨.t 51, .p (.ixsl 1), [.l 47, .l 49], none, 0, 0⟩, ⟨.t 52, .r (.load false 1), [.t 51], none, 0, 0⟩, ⟨.l 10, .p (.mv), [.t 52], none, 0, 0⟩])
 (.reg [⟨.t 53, .p (.mv), [.l 0], none, 0, 0⟩, ⟨.t 54, .p (.nilc), [.t 53], none, 0, 0⟩, ⟨.t 55, .p (.fa 7), [.t 54], none, 0, 0⟩, ⟨.t 56, .r (.load false 1), [.t 55], none, 0, 0⟩, ⟨.t 57, .p (.mv), [.l 10], none, 0, 0⟩, ⟨.t 58, .call 31, [.t 56, .t 57], none, 0, 0⟩])))
 (.reg [⟨.t 59, .p (.bin .add), [.l 49, .c (.int .i64 1)], none, 0, 0⟩, ⟨.l 49, .p (.mv), [.t 59], none, 0, 0⟩])))))))
 (.seq (.reg [⟨.t 60, .p (.mv), [.l 0], none, 0, 0⟩, ⟨.t 61, .call 105, [.t 60], none, 0, 0⟩])
 (.seq (.regD [⟨.t 62, .p (.mv), [.l 0], none, 0, 0⟩, ⟨.t 63, .p (.mv), [.l 0], none, 0, 1⟩, ⟨.t 64, .p (.mv), [.l 0], none, 0, 2⟩, ⟨.t 65, .r (.load true 4), [.l 7], none, 0, 0⟩, ⟨.t 66, .p (.fa 2), [.l 4], none, 0, 1⟩, ⟨.t 67, .r (.load false 1), [.t 66], none, 0, 1⟩, ⟨.t 68, .p (.mv), [.l 2], none, 0, 2⟩, ⟨.t 69, .p (.nilc), [.t 62], none, 0, 0⟩, ⟨.t 70, .p (.fa 0), [.t 69], none, 0, 0⟩, ⟨.no, .e (.store 4), [.t 70, .t 65], none, 0, 1⟩, ⟨.t 71, .p (.nilc), [.t 63], none, 1, 1⟩, ⟨.t 72, .p (.fa 4), [.t 71], none, 1, 1⟩, ⟨.no, .e (.store 1), [.t 72, .t 67], none, 1, 2⟩, ⟨.t 73, .p (.nilc), [.t 64], none, 2, 2⟩, ⟨.t 74, .p (.fa 5), [.t 73], none, 2, 2⟩, ⟨.no, .e (.store 1), [.t 74, .t 68], none, 2, 3⟩])
 (.seq (.reg [⟨.l 6, .p (.mv), [.c (.int .i64 0)], none, 0, 0⟩])
 .ret))))))))),
 [.tmp (.l 6)]⟩
theorem cf198_ok : compF TP Tryz.f198 = some cf198 := by kernel_rfl
def cf199 : CF := ⟨0, (.seq (.reg [⟨.l 0, .a (.alloc [.nilf, .nilf, .nilf, .nilf, .nilf, .nilf, .nilf, .nilf, .nilf, .nilf, .nilf]), [], none, 0, 0⟩])
 (.seq (.reg [⟨.l 1, .p (.mv), [.c (.func (.func 269) [] [])], none, 0, 0⟩])
 (.seq (.reg [⟨.t 2, .p (.mv), [.l 1], none, 0, 0⟩, ⟨.t 3, .p (.mv), [.l 1], none, 0, 0⟩, ⟨.t 4, .p (.build [.nilf, .nilf, .nilf, .nilf, .nilf, .nilf, .nilf, .nilf, .nilf, .nilf, .nilf] [(0, 1), (1, 1), (2, 1), (3, 1), (6, 1), (4, 1), (5, 1), (7, 1), (8, 1), (9, 1), (10, 1)]), [.c (.func (.func 271) [] []), .c (.func (.func 272) [] []), .c (.func (.func 273) [] []), .t 2, .t 3, .c (.func (.func 274) [] []), .c (.func (.func 275) [] []), .c (.func (.func 276) [] []), .c (.func (.func 277) [] []), .c (.func (.func 278) [] []), .c (.func (.func 279) [] [])], none, 0, 0⟩, ⟨.no, .e (.store 11), [.l 0, .t 4], none, 0, 0⟩])
 .ret))),
 [.cell (.l 0) true 11]⟩
theorem cf199_ok : compF TP Tryz.f199 = some cf199 := by kernel_rfl
def cf200 : CF := ⟨2, (.seq (.reg [⟨.l 2, .a (.box), [.l 0], none, 0, 0⟩, ⟨.l 3, .a (.box), [.l 1], none, 0, 0⟩, ⟨.l 4, .p (.mv), [.c (.bool false)], none, 0, 0⟩])
 (.seq (.seq (.reg [⟨.t 7, .p (.fa 0), [.l 3], none, 0, 0⟩, ⟨.t 8, .r (.load false 1), [.t 7], none, 0, 0⟩, ⟨.t 9, .p (.bin .lss), [.t 8, .c (.int .i64 0)], none, 0, 0⟩, ⟨.t 10, .p (.mv), [.t 9], none, 0, 0⟩, ⟨.t 11, .p (.fa 0), [.l 3], (some (.t 10, false)), 0, 0⟩, ⟨.t 12, .r (.load false 1), [.t 11], (some (.t 10, false)), 0, 0⟩, ⟨.t 13, .p (.bin .geq), [.t 12, .c (.int .i64 11)], (some (.t 10, false)), 0, 0⟩, ⟨.l 14, .p (.pick), [.t 10, .c (.bool true), .t 13], none, 0, 0⟩])
 (.cond (.l 14) (.seq (.reg [⟨.l 4, .p (.mv), [.c (.bool false)], none, 0, 0⟩])
 .ret)
 .skip))
 (.seq (.regD [⟨.t 16, .r (.load false 1), [.l 2], none, 0, 0⟩, ⟨.t 17, .p (.fa 0), [.l 3], none, 0, 0⟩, ⟨.t 18, .r (.load false 1), [.t 17], none, 0, 0⟩, ⟨.t 19, .p (.nilc), [.t 16], none, 0, 0⟩, ⟨.t 20, .p (.fa 0), [.t 19], none, 0, 0⟩, ⟨.t 21, .p (.ixarrp 11 1), [.t 20, .t 18], none, 0, 0⟩, ⟨.t 22, .r (.load false 1), [.t 21], none, 0, 0⟩, ⟨.t 23, .r (.load true 9), [.l 3], none, 0, 0⟩, ⟨.l 5, .a (.alloc [(.int .i64 0), (.int .i64 0), (.int .i64 0), (.str 0 0), (.str 0 0), (.int .i64 0), .nils, (.str 0 0), (.int .i64 0)]), [], none, 0, 1⟩, ⟨.t 24, .callv, [.t 22, .t 23], none, 0, 1⟩, ⟨.t 15, .p (.mv), [.t 24], none, 1, 1⟩, ⟨.t 25, .p (.ext 0), [.t 15], none, 1, 1⟩, ⟨.t 26, .p (.ext 1), [.t 15], none, 1, 2⟩, ⟨.no, .e (.store 9), [.l 5, .t 25], none, 1, 2⟩, ⟨.l 6, .p (.mv), [.t 26], none, 2, 2⟩])
 (.seq (.reg [⟨.t 27, .p (.fa 0), [.l 5], none, 0, 0⟩, ⟨.no, .e (.store 1), [.t 27, .c (.int .i64 0)], none, 0, 0⟩])
 (.seq (.seq (.reg [⟨.t 28, .p (.mv), [.l 6], none, 0, 0⟩, ⟨.t 29, .p (.un .not), [.t 28], none, 0, 0⟩, ⟨.t 30, .p (.mv), [.t 29], none, 0, 0⟩, ⟨.t 31, .r (.load true 9), [.l 5], (some (.t 30, false)), 0, 0⟩, ⟨.t 32, .p (.build [(.int .i64 0), (.int .i64 0), (.int .i64 0), (.str 0 0), (.str 0 0), (.int .i64 0), .nils, (.str 0 0), (.int .i64 0)] []), [], (some (.t 30, false)), 0, 0⟩, ⟨.t 33, .call 280, [.t 31, .t 32], (some (.t 30, false)), 0, 0⟩, ⟨.t 34, .p (.un .not), [.t 33], (some (.t 30, false)), 0, 0⟩, ⟨.l 35, .p (.pick), [.t 30, .c (.bool true), .t 34], none, 0, 0⟩])
 (.cond (.l 35) (.seq (.reg [⟨.l 4, .p (.mv), [.c (.bool false)], none, 0, 0⟩])
 .ret)
 .skip))
 (.seq (.seq (.reg [⟨.t 36, .p (.fa 0), [.l 3], none, 0, 0⟩, ⟨.l 37, .r (.load false 1), [.t 36], none, 0, 0⟩])
 (.block 0 (.seq (.reg [⟨.t 46, .p (.bin .eql), [.l 37, .c (.int .i64 9)], none, 0, 0⟩, ⟨.l 45, .p (.mv), [.t 46], none, 0, 0⟩])
 (.cond (.l 45) (.regD [⟨.t 47, .r (.load false 1), [.l 2], none, 0, 0⟩, ⟨.t 48, .p (.nilc), [.t 47], none, 0, 0⟩, ⟨.t 49, .p (.fa 11), [.t 48], none, 0, 0⟩, ⟨.t 50, .r (.load false 1), [.t 49], none, 0, 0⟩, ⟨.t 51, .p (.fa 6), [.l 3], none, 0, 0⟩, ⟨.t 52, .r (.load false 1), [.t 51], none, 0, 0⟩, ⟨.t 53, .p (.leng .sl), [.t 52], none, 0, 0⟩, ⟨.t 54, .p (.bin .sub), [.t 53, .c (.int .i64 1)], none, 0, 0⟩, ⟨.t 55, .p (.bin .add), [.t 50, .t 54], none, 0, 0⟩, ⟨.t 56, .p (.nilc), [.t 47], none, 0, 0⟩, ⟨.t 57, .p (.fa 11), [.t 56], none, 0, 0⟩, ⟨.no, .e (.store 1), [.t 57, .t 55], none, 0, 1⟩])
 (.seq (.reg [⟨.t 59, .p (.bin .eql), [.l 37, .c (.int .i64 10)], none, 0, 0⟩, ⟨.l 58, .p (.mv), [.t 59], none, 0, 0⟩])
 (.cond (.l 58) (.regD [⟨.t 60, .r (.load false 1), [.l 2], none, 0, 0⟩, ⟨.t 61, .p (.nilc), [.t 60], none, 0, 0⟩, ⟨.t 62, .p (.fa 11), [.t 61], none, 0, 0⟩, ⟨.t 63, .r (.load false 1), [.t 62], none, 0, 0⟩, ⟨.t 64, .p (.fa 8), [.l 3], none, 0, 0⟩, ⟨.t 65, .r (.load false 1), [.t 64], none, 0, 0⟩, ⟨.t 66, .p (.bin .add), [.t 65, .c (.int .i64 63)], none, 0, 0⟩, ⟨.t 67, .p (.bin .quo), [.t 66, .c (.int .i64 64)], none, 0, 0⟩, ⟨.t 68, .p (.bin .add), [.c (.int .i64 1), .t 67], none, 0, 0⟩, ⟨.t 69, .p (.bin .add), [.t 63, .t 68], none, 0, 0⟩, ⟨.t 70, .p (.nilc), [.t 60], none, 0, 0⟩, ⟨.t 71, .p (.fa 11), [.t 70], none, 0, 0⟩, ⟨.no, .e (.store 1), [.t 71, .t 69], none, 0, 1⟩])
 (.reg [⟨.t 38, .r (.load false 1), [.l 2], none, 0, 0⟩, ⟨.t 39, .p (.nilc), [.t 38], none, 0, 0⟩, ⟨.t 40, .p (.fa 11), [.t 39], none, 0, 0⟩, ⟨.t 41, .r (.load false 1), [.t 40], none, 0, 0⟩, ⟨.t 42, .p (.bin .add), [.t 41, .c (.int .i64 1)], none, 0, 0⟩, ⟨.t 43, .p (.nilc), [.t 38], none, 0, 0⟩, ⟨.t 44, .p (.fa 11), [.t 43], none, 0, 0⟩, ⟨.no, .e (.store 1), [.t 44, .t 42], none, 0, 0⟩])))))))
 (.seq (.reg [⟨.t 72, .p (.fa 6), [.l 3], none, 0, 0⟩, ⟨.t 73, .r (.load false 1), [.t 72], none, 0, 0⟩, ⟨.t 74, .p (.mkf (.func 282) 0), [.l 2], none, 0, 0⟩, ⟨.t 75, .call 281, [.t 73, .t 74], none, 0, 0⟩, ⟨.t 76, .p (.un .not), [.t 75], none, 0, 0⟩, ⟨.l 4, .p (.mv), [.t 76], none, 0, 0⟩])
 .ret))))))),
 [.tmp (.l 4)]⟩
theorem cf200_ok : compF TP Tryz.f200 = some cf200 := by kernel_rfl
def cf202 : CF := ⟨2, (.seq (.reg [⟨.l 3, .a (.box), [.l 1], none, 0, 0⟩, ⟨.l 4, .a (.alloc [(.int .i64 0), (.int .i64 0), (.int .i64 0), (.str 0 0), (.str 0 0), (.int .i64 0), .nils, (.str 0 0), (.int .i64 0)]), [], none, 0, 0⟩, ⟨.l 5, .p (.mv), [.c (.bool false)], none, 0, 0⟩])
 (.seq (.seq (.reg [⟨.t 6, .p (.fa 0), [.l 3], none, 0, 0⟩, ⟨.t 7, .r (.load false 1), [.t 6], none, 0, 0⟩, ⟨.l 8, .p (.bin .neq), [.t 7, .c (.int .i64 3)], none, 0, 0⟩])
 (.cond (.l 8) (.seq (.reg [⟨.t 9, .p (.build [(.int .i64 0), (.int .i64 0), (.int .i64 0), (.str 0 0), (.str 0 0), (.int .i64 0), .nils, (.str 0 0), (.int .i64 0)] []), [], none, 0, 0⟩, ⟨.no, .e (.store 9), [.l 4, .t 9], none, 0, 0⟩, ⟨.l 5, .p (.mv), [.c (.bool false)], none, 0, 0⟩])
 .ret)
 .skip))
 (.seq (.regD [⟨.t 10, .p (.mv), [.l 0], none, 0, 0⟩, ⟨.t 11, .p (.nilc), [.t 10], none, 0, 0⟩, ⟨.t 12, .p (.fa 311), [.t 11], none, 0, 0⟩, ⟨.t 13, .p (.fa 0), [.t 12], none, 0, 0⟩, ⟨.t 14, .r (.load false 1), [.t 13], none, 0, 0⟩, ⟨.t 15, .p (.nilc), [.t 14], none, 0, 0⟩, ⟨.t 16, .p (.fa 1), [.t 15], none, 0, 0⟩, ⟨.t 17, .p (.fa 2), [.t 16], none, 0, 0⟩, ⟨.t 18, .r (.load false 1), [.t 17], none, 0, 0⟩, ⟨.t 19, .p (.fa 1), [.l 3], none, 0, 0⟩, ⟨.t 20, .r (.load false 1), [.t 19], none, 0, 0⟩, ⟨.t 21, .p (.ixsl 9), [.t 18, .t 20], none, 0, 0⟩, ⟨.t 22, .r (.load true 9), [.t 21], none, 0, 0⟩, ⟨.no, .e (.store 9), [.l 4, .t 22], none, 0, 1⟩, ⟨.l 5, .p (.mv), [.c (.bool true)], none, 1, 1⟩])
 .ret))),
 [.cell (.l 4) true 9, .tmp (.l 5)]⟩
theorem cf202_ok : compF TP Tryz.f202 = some cf202 := by kernel_rfl
def cf203 : CF := ⟨2, (.seq (.reg [⟨.l 3, .a (.box), [.l 1], none, 0, 0⟩, ⟨.l 4, .p (.mv), [.c (.int .u64 0)], none, 0, 0⟩])
 (.seq (.seq (.reg [⟨.t 7, .p (.fa 0), [.l 3], none, 0, 0⟩, ⟨.l 8, .r (.load false 1), [.t 7], none, 0, 0⟩])
 (.block 0 (.seq (.reg [⟨.t 10, .p (.bin .eql), [.l 8, .c (.int .i64 1)], none, 0, 0⟩, ⟨.l 9, .p (.mv), [.t 10], none, 0, 0⟩])
 (.cond (.l 9) (.seq (.regD [⟨.t 11, .p (.mv), [.l 0], none, 0, 0⟩, ⟨.t 12, .p (.fa 1), [.l 3], none, 0, 0⟩, ⟨.t 13, .r (.load false 1), [.t 12], none, 0, 0⟩, ⟨.t 14, .p (.nilc), [.t 11], none, 0, 0⟩, ⟨.t 15, .p (.fa 54), [.t 14], none, 0, 0⟩, ⟨.t 16, .p (.ixarrp 256 1), [.t 15, .t 13], none, 0, 0⟩, ⟨.t 17, .r (.load false 1), [.t 16], none, 0, 0⟩, ⟨.l 4, .p (.mv), [.t 17], none, 0, 0⟩])
 .ret)
 (.seq (.reg [⟨.t 19, .p (.bin .eql), [.l 8, .c (.int .i64 2)], none, 0, 0⟩, ⟨.l 18, .p (.mv), [.t 19], none, 0, 0⟩])
 (.cond (.l 18) (.seq (.regD [⟨.t 20, .p (.mv), [.l 0], none, 0, 0⟩, ⟨.t 22, .p (.fa 1), [.l 3], none, 0, 1⟩, ⟨.t 23, .r (.load false 1), [.t 22], none, 0, 1⟩, ⟨.t 21, .call 201, [.t 20], none, 0, 1⟩, ⟨.t 24, .p (.ixsl 1), [.t 21, .t 23], none, 1, 1⟩, ⟨.t 25, .r (.load false 1), [.t 24], none, 1, 1⟩, ⟨.l 4, .p (.mv), [.t 25], none, 1, 1⟩])
 .ret)
 .skip))))))
 (.seq (.regD [⟨.t 27, .p (.mv), [.l 0], none, 0, 0⟩, ⟨.t 28, .p (.nilc), [.t 27], none, 0, 0⟩, ⟨.t 29, .p (.fa 10), [.t 28], none, 0, 0⟩, ⟨.t 30, .r (.load false 1), [.t 29], none, 0, 0⟩, ⟨.t 31, .p (.mv), [.l 0], none, 0, 0⟩, ⟨.t 32, .p (.nilc), [.t 31], none, 0, 0⟩, ⟨.t 33, .p (.fa 311), [.t 32], none, 0, 0⟩, ⟨.t 34, .p (.fa 0), [.t 33], none, 0, 0⟩, ⟨.t 35, .r (.load false 1), [.t 34], none, 0, 0⟩, ⟨.t 36, .p (.nilc), [.t 35], none, 0, 0⟩, ⟨.t 37, .p (.fa 1), [.t 36], none, 0, 0⟩, ⟨.t 38, .p (.fa 2), [.t 37], none, 0, 0⟩, ⟨.t 39, .r (.load false 1), [.t 38], none, 0, 0⟩, ⟨.t 40, .p (.fa 1), [.l 3], none, 0, 0⟩, ⟨.t 41, .r (.load false 1), [.t 40], none, 0, 0⟩, ⟨.t 42, .p (.ixsl 9), [.t 39, .t 41], none, 0, 0⟩, ⟨.t 43, .r (.load true 9), [.t 42], none, 0, 0⟩, ⟨.t 44, .call 119, [.t 30, .t 43], none, 0, 1⟩, ⟨.t 26, .p (.mv), [.t 44], none, 1, 1⟩, ⟨.t 45, .p (.ext 0), [.t 26], none, 1, 1⟩, ⟨.t 46, .p (.ext 1), [.t 26], none, 1, 1⟩, ⟨.l 5, .p (.mv), [.t 45], none, 1, 1⟩, ⟨.t 6, .p (.mv), [.t 46], none, 1, 1⟩])
 (.seq (.reg [⟨.t 47, .p (.mv), [.l 5], none, 0, 0⟩, ⟨.l 4, .p (.mv), [.t 47], none, 0, 0⟩])
 .ret)))),
 [.tmp (.l 4)]⟩
theorem cf203_ok : compF TP Tryz.f203 = some cf203 := by kernel_rfl
def cf208 : CF := ⟨2, (.seq (.reg [⟨.l 4, .p (.mv), [.c (.int .u64 0)], none, 0, 0⟩])
 (.seq (.reg [⟨.t 10, .p (.mv), [.l 0], none, 0, 0⟩, ⟨.t 11, .p (.nilc), [.t 10], none, 0, 0⟩, ⟨.t 12, .p (.fa 6), [.t 11], none, 0, 0⟩, ⟨.t 13, .r (.load false 1), [.t 12], none, 0, 0⟩, ⟨.t 14, .p (.mv), [.l 1], none, 0, 0⟩, ⟨.t 15, .call 32, [.t 13, .t 14], none, 0, 0⟩, ⟨.t 9, .p (.mv), [.t 15], none, 0, 0⟩, ⟨.t 16, .p (.ext 0), [.t 9], none, 0, 0⟩, ⟨.t 17, .p (.ext 1), [.t 9], none, 0, 0⟩, ⟨.l 5, .p (.mv), [.t 16], none, 0, 0⟩, ⟨.t 6, .p (.mv), [.t 17], none, 0, 0⟩])
 (.seq (.reg [⟨.t 19, .p (.mv), [.l 5], none, 0, 0⟩, ⟨.t 20, .call 289, [.t 19], none, 0, 0⟩, ⟨.t 18, .p (.mv), [.t 20], none, 0, 0⟩, ⟨.t 21, .p (.ext 0), [.t 18], none, 0, 0⟩, ⟨.t 22, .p (.ext 1), [.t 18], none, 0, 0⟩, ⟨.l 7, .p (.mv), [.t 21], none, 0, 0⟩, ⟨.t 8, .p (.mv), [.t 22], none, 0, 0⟩])
 (.seq (.reg [⟨.t 23, .p (.mv), [.l 7], none, 0, 0⟩, ⟨.l 4, .p (.mv), [.t 23], none, 0, 0⟩])
 .ret)))),
 [.tmp (.l 4)]⟩
theorem cf208_ok : compF TP Tryz.f208 = some cf208 := by kernel_rfl
def cf212 : CF := ⟨2, (.seq (.reg [⟨.l 4, .a (.alloc [(.int .i64 0), (.int .i64 0), (.int .i64 0), (.str 0 0), (.str 0 0), (.int .i64 0), .nils, (.str 0 0), (.int .i64 0)]), [], none, 0, 0⟩])
 (.seq (.seq (.reg [⟨.t 16, .p (.mv), [.l 1], none, 0, 0⟩, ⟨.t 17, .call 187, [.t 16], none, 0, 0⟩, ⟨.t 15, .p (.mv), [.t 17], none, 0, 0⟩, ⟨.t 18, .p (.ext 0), [.t 15], none, 0, 0⟩, ⟨.t 19, .p (.ext 1), [.t 15], none, 0, 0⟩, ⟨.l 5, .p (.mv), [.t 18], none, 0, 0⟩, ⟨.l 6, .p (.mv), [.t 19], none, 0, 0⟩])
 (.seq (.reg [⟨.l 20, .p (.mv), [.l 6], none, 0, 0⟩])
 (.cond (.l 20) (.seq (.reg [⟨.t 21, .p (.mv), [.l 5], none, 0, 0⟩, ⟨.t 22, .call 158, [.t 21], none, 0, 0⟩, ⟨.no, .e (.store 9), [.l 4, .t 22], none, 0, 0⟩])
 .ret)
 .skip)))
 (.seq (.seq (.reg [⟨.t 24, .p (.mv), [.l 1], none, 0, 0⟩, ⟨.t 25, .call 188, [.t 24], none, 0, 0⟩, ⟨.t 23, .p (.mv), [.t 25], none, 0, 0⟩, ⟨.t 26, .p (.ext 0), [.t 23], none, 0, 0⟩, ⟨.t 27, .p (.ext 1), [.t 23], none, 0, 0⟩, ⟨.t 7, .p (.mv), [.t 26], none, 0, 0⟩, ⟨.l 8, .p (.mv), [.t 27], none, 0, 0⟩])
 (.seq (.reg [⟨.l 28, .p (.mv), [.l 8], none, 0, 0⟩])
 (.cond (.l 28) (.seq (.reg [⟨.t 29, .p (.mv), [.l 0], none, 0, 0⟩, ⟨.t 30, .p (.mv), [.l 1], none, 0, 0⟩, ⟨.t 31, .call 290, [.t 29, .t 30], none, 0, 0⟩, ⟨.t 32, .p (.build [(.int .i64 0), (.int .i64 0), (.int .i64 0), (.str 0 0), (.str 0 0), (.int .i64 0), .nils, (.str 0 0), (.int .i64 0)] [(0, 1), (3, 1)]), [.c (.int .i64 2), .t 31], none, 0, 0⟩, ⟨.no, .e (.store 9), [.l 4, .t 32], none, 0, 0⟩])
 .ret)
 .skip)))
 (.seq (.reg [⟨.t 34, .p (.mv), [.l 0], none, 0, 0⟩, ⟨.t 35, .p (.nilc), [.t 34], none, 0, 0⟩, ⟨.t 36, .p (.fa 0), [.t 35], none, 0, 0⟩, ⟨.t 37, .p (.mv), [.l 1], none, 0, 0⟩, ⟨.t 38, .call 127, [.t 36, .t 37], none, 0, 0⟩, ⟨.t 33, .p (.mv), [.t 38], none, 0, 0⟩, ⟨.t 39, .p (.ext 0), [.t 33], none, 0, 0⟩, ⟨.t 40, .p (.ext 1), [.t 33], none, 0, 0⟩, ⟨.t 41, .p (.ext 2), [.t 33], none, 0, 0⟩, ⟨.l 9, .p (.mv), [.t 39], none, 0, 0⟩, ⟨.l 10, .p (.mv), [.t 40], none, 0, 0⟩, ⟨.l 11, .p (.mv), [.t 41], none, 0, 0⟩])
 (.seq (.seq (.reg [⟨.t 42, .p (.mv), [.l 11], none, 0, 0⟩, ⟨.l 43, .p (.un .not), [.t 42], none, 0, 0⟩])
 (.cond (.l 43) (.seq (.reg [⟨.t 44, .call 291, [], none, 0, 0⟩, ⟨.no, .e (.store 9), [.l 4, .t 44], none, 0, 0⟩])
 .ret)
 .skip))
 (.seq (.reg [⟨.l 12, .p (.mv), [.c .nils], none, 0, 0⟩])
 (.seq (.seq (.reg [⟨.t 45, .p (.mv), [.l 9], none, 0, 0⟩, ⟨.l 46, .p (.bin .neq), [.t 45, .c (.int .i64 0)], none, 0, 0⟩])
 (.cond (.l 46) (.seq (.reg [⟨.t 47, .p (.mv), [.l 10], none, 0, 0⟩, ⟨.t 48, .p (.mv), [.l 9], none, 0, 0⟩, ⟨.t 49, .p (.mv), [.l 10], none, 0, 0⟩, ⟨.t 50, .call 128, [.t 48, .t 49], none, 0, 0⟩, ⟨.l 51, .p (.slc (.sl 1) true false false), [.t 47, .t 50], none, 0, 0⟩, ⟨.l 52, .p (.leng .sl), [.l 51], none, 0, 0⟩, ⟨.l 53, .p (.mv), [.c (.int .i64 0)], none, 0, 0⟩])
 (.block 0 (.loop (.seq (.reg [⟨.l 54, .p (.bin .lss), [.l 53, .l 52], none, 0, 0⟩])
 (.seq (.cond (.l 54) .skip
 (.exit 0))
 (.seq (.block 1 (.seq (.reg [⟨.t 55, .p (.ixsl 1), [.l 51, .l 53], none, 0, 0⟩, ⟨.t 56, .r (.load false 1), [.t 55], none, 0, 0⟩, ⟨.l 14, .p (.mv), [.t 56], none, 0, 0⟩])
 (.reg [⟨.t 57, .p (.mv), [.l 12], none, 0, 0⟩, ⟨.t 58, .p (.mv), [.l 0], none, 0, 0⟩, ⟨.t 59, .p (.mv), [.l 14], none, 0, 0⟩, ⟨.t 60, .call 212, [.t 58, .t 59], none, 0, 0⟩, ⟨.t 61, .a (.bslice [(.int .i64 0), (.int .i64 0), (.int .i64 0), (.str 0 0), (.str 0 0), (.int .i64 0), .nils, (.str 0 0), (.int .i64 0)] 1 9 [(0, 9)]), [.t 60], none, 0, 0⟩, ⟨.t 62, .e (.append 9 112 none), [.t 57, .t 61], none, 0, 0⟩, ⟨.l 12, .p (.mv), [.t 62], none, 0, 0⟩])))
 (.reg [⟨.t 63, .p (.bin .add), [.l 53, .c (.int .i64 1)], none, 0, 0⟩, ⟨.l 53, .p (.mv), [.t 63], none, 0, 0⟩])))))))
 .skip))
 (.seq (.seq (.reg [⟨.l 64, .p (.mv), [.l 9], none, 0, 0⟩])
 (.block 2 (.seq (.reg [⟨.t 66, .p (.bin .eql), [.l 64, .c (.int .i64 0)], none, 0, 0⟩, ⟨.l 65, .p (.mv), [.t 66], none, 0, 0⟩])
 (.cond (.l 65) (.seq (.block 3 (.loop (.seq (.seq (.reg [⟨.t 67, .p (.mv), [.l 11], none, 0, 0⟩, ⟨.t 68, .p (.mv), [.t 67], none, 0, 0⟩, ⟨.t 69, .p (.mv), [.l 9], (some (.t 68, true)), 0, 0⟩, ⟨.t 70, .p (.bin .eql), [.t 69, .c (.int .i64 0)], (some (.t 68, true)), 0, 0⟩, ⟨.l 71, .p (.pick), [.t 68, .t 70, .c (.bool false)], none, 0, 0⟩])
 (.cond (.l 71) .skip
 (.exit 3)))
 (.seq (.block 4 (.seq (.reg [⟨.t 81, .p (.mv), [.l 12], none, 0, 0⟩, ⟨.t 82, .p (.mv), [.l 0], none, 0, 0⟩, ⟨.t 83, .p (.mv), [.l 10], none, 0, 0⟩, ⟨.t 84, .p (.ixsl 1), [.t 83, .c (.int .i64 0)], none, 0, 0⟩, ⟨.t 85, .r (.load false 1), [.t 84], none, 0, 0⟩, ⟨.t 86, .call 212, [.t 82, .t 85], none, 0, 0⟩, ⟨.t 87, .a (.bslice [(.int .i64 0), (.int .i64 0), (.int .i64 0), (.str 0 0), (.str 0 0), (.int .i64 0), .nils, (.str 0 0), (.int .i64 0)] 1 9 [(0, 9)]), [.t 86], none, 0, 0⟩, ⟨.t 88, .e (.append 9 112 none), [.t 81, .t 87], none, 0, 0⟩, ⟨.l 12, .p (.mv), [.t 88], none, 0, 0⟩])
 (.reg [⟨.t 89, .p (.mv), [.l 10], none, 0, 0⟩, ⟨.t 90, .p (.ixsl 1), [.t 89, .c (.int .i64 1)], none, 0, 0⟩, ⟨.t 91, .r (.load false 1), [.t 90], none, 0, 0⟩, ⟨.l 1, .p (.mv), [.t 91], none, 0, 0⟩])))
 (.reg [⟨.t 73, .p (.mv), [.l 0], none, 0, 0⟩, ⟨.t 74, .p (.nilc), [.t 73], none, 0, 0⟩, ⟨.t 75, .p (.fa 0), [.t 74], none, 0, 0⟩, ⟨.t 76, .p (.mv), [.l 1], none, 0, 0⟩, ⟨.t 77, .call 127, [.t 75, .t 76], none, 0, 0⟩, ⟨.t 72, .p (.mv), [.t 77], none, 0, 0⟩, ⟨.t 78, .p (.ext 0), [.t 72], none, 0, 0⟩, ⟨.t 79, .p (.ext 1), [.t 72], none, 0, 0⟩, ⟨.t 80, .p (.ext 2), [.t 72], none, 0, 0⟩, ⟨.l 9, .p (.mv), [.t 78], none, 0, 0⟩, ⟨.l 10, .p (.mv), [.t 79], none, 0, 0⟩, ⟨.l 11, .p (.mv), [.t 80], none, 0, 0⟩])))))
 (.seq (.reg [⟨.t 92, .p (.mv), [.l 12], none, 0, 0⟩, ⟨.t 93, .p (.mv), [.l 0], none, 0, 0⟩, ⟨.t 94, .p (.mv), [.l 1], none, 0, 0⟩, ⟨.t 95, .call 212, [.t 93, .t 94], none, 0, 0⟩, ⟨.t 96, .a (.bslice [(.int .i64 0), (.int .i64 0), (.int .i64 0), (.str 0 0), (.str 0 0), (.int .i64 0), .nils, (.str 0 0), (.int .i64 0)] 1 9 [(0, 9)]), [.t 95], none, 0, 0⟩, ⟨.t 97, .e (.append 9 112 none), [.t 92, .t 96], none, 0, 0⟩, ⟨.t 98, .p (.build [(.int .i64 0), (.int .i64 0), (.int .i64 0), (.str 0 0), (.str 0 0), (.int .i64 0), .nils, (.str 0 0), (.int .i64 0)] [(0, 1), (6, 1)]), [.c (.int .i64 9), .t 97], none, 0, 0⟩, ⟨.no, .e (.store 9), [.l 4, .t 98], none, 0, 0⟩])
 .ret))
 (.seq (.reg [⟨.t 100, .p (.bin .eql), [.l 64, .c (.int .i64 1)], none, 0, 0⟩, ⟨.l 99, .p (.mv), [.t 100], none, 0, 0⟩])
 (.cond (.l 99) (.seq (.reg [⟨.t 101, .p (.mv), [.l 12], none, 0, 0⟩, ⟨.t 102, .p (.build [(.int .i64 0), (.int .i64 0), (.int .i64 0), (.str 0 0), (.str 0 0), (.int .i64 0), .nils, (.str 0 0), (.int .i64 0)] [(0, 1), (6, 1)]), [.c (.int .i64 7), .t 101], none, 0, 0⟩, ⟨.no, .e (.store 9), [.l 4, .t 102], none, 0, 0⟩])
 .ret)
 (.seq (.reg [⟨.t 104, .p (.bin .eql), [.l 64, .c (.int .i64 2)], none, 0, 0⟩, ⟨.l 103, .p (.mv), [.t 104], none, 0, 0⟩])
 (.cond (.l 103) (.seq (.regD [⟨.t 105, .p (.mv), [.l 0], none, 0, 0⟩, ⟨.t 106, .p (.mv), [.l 10], none, 0, 0⟩, ⟨.t 107, .p (.ixsl 1), [.t 106, .c (.int .i64 0)], none, 0, 0⟩, ⟨.t 108, .r (.load false 1), [.t 107], none, 0, 0⟩, ⟨.t 110, .p (.mv), [.l 10], none, 0, 1⟩, ⟨.t 111, .p (.ixsl 1), [.t 110, .c (.int .i64 1)], none, 0, 1⟩, ⟨.t 112, .r (.load false 1), [.t 111], none, 0, 1⟩, ⟨.t 114, .p (.mv), [.l 10], none, 0, 2⟩, ⟨.t 115, .p (.ixsl 1), [.t 114, .c (.int .i64 2)], none, 0, 2⟩, ⟨.t 116, .r (.load false 1), [.t 115], none, 0, 2⟩, ⟨.t 118, .p (.mv), [.l 10], none, 0, 3⟩, ⟨.t 119, .p (.ixsl 1), [.t 118, .c (.int .i64 3)], none, 0, 3⟩, ⟨.t 120, .r (.load false 1), [.t 119], none, 0, 3⟩, ⟨.t 122, .p (.mv), [.l 12], none, 0, 4⟩, ⟨.t 109, .call 290, [.t 105, .t 108], none, 0, 1⟩, ⟨.t 113, .call 211, [.t 112], none, 1, 2⟩, ⟨.t 117, .call 211, [.t 116], none, 2, 3⟩, ⟨.t 121, .call 211, [.t 120], none, 3, 4⟩, ⟨.t 123, .p (.build [(.int .i64 0), (.int .i64 0), (.int .i64 0), (.str 0 0), (.str 0 0), (.int .i64 0), .nils, (.str 0 0), (.int .i64 0)] [(0, 1), (3, 1), (2, 1), (1, 1), (5, 1), (6, 1)]), [.c (.int .i64 4), .t 109, .t 113, .t 117, .t 121, .t 122], none, 4, 4⟩, ⟨.no, .e (.store 9), [.l 4, .t 123], none, 4, 5⟩])
 .ret)
 (.seq (.reg [⟨.t 125, .p (.bin .eql), [.l 64, .c (.int .i64 3)], none, 0, 0⟩, ⟨.l 124, .p (.mv), [.t 125], none, 0, 0⟩])
 (.cond (.l 124) (.seq (.regD [⟨.t 126, .p (.mv), [.l 0], none, 0, 0⟩, ⟨.t 127, .p (.mv), [.l 10], none, 0, 0⟩, ⟨.t 128, .p (.ixsl 1), [.t 127, .c (.int .i64 0)], none, 0, 0⟩, ⟨.t 129, .r (.load false 1), [.t 128], none, 0, 0⟩, ⟨.t 131, .p (.mv), [.l 0], none, 0, 1⟩, ⟨.t 132, .p (.mv), [.l 10], none, 0, 1⟩, ⟨.t 133, .p (.ixsl 1), [.t 132, .c (.int .i64 1)], none, 0, 1⟩, ⟨.t 134, .r (.load false 1), [.t 133], none, 0, 1⟩, ⟨.t 136, .p (.mv), [.l 10], none, 0, 2⟩, ⟨.t 137, .p (.ixsl 1), [.t 136, .c (.int .i64 2)], none, 0, 2⟩, ⟨.t 138, .r (.load false 1), [.t 137], none, 0, 2⟩, ⟨.t 130, .call 290, [.t 126, .t 129], none, 0, 1⟩, ⟨.t 135, .call 290, [.t 131, .t 134], none, 1, 2⟩, ⟨.t 139, .call 211, [.t 138], none, 2, 3⟩, ⟨.t 140, .p (.build [(.int .i64 0), (.int .i64 0), (.int .i64 0), (.str 0 0), (.str 0 0), (.int .i64 0), .nils, (.str 0 0), (.int .i64 0)] [(0, 1), (3, 1), (4, 1), (5, 1)]), [.c (.int .i64 5), .t 130, .t 135, .t 139], none, 3, 3⟩, ⟨.no, .e (.store 9), [.l 4, .t 140], none, 3, 4⟩])
 .ret)
 (.seq (.reg [⟨.t 142, .p (.bin .eql), [.l 64, .c (.int .i64 4)], none, 0, 0⟩, ⟨.l 141, .p (.mv), [.t 142], none, 0, 0⟩])
 (.cond (.l 141) (.seq (.regD [⟨.t 143, .p (.mv), [.l 0], none, 0, 0⟩, ⟨.t 144, .p (.mv), [.l 10], none, 0, 0⟩, ⟨.t 145, .p (.ixsl 1), [.t 144, .c (.int .i64 0)], none, 0, 0⟩, ⟨.t 146, .r (.load false 1), [.t 145], none, 0, 0⟩, ⟨.t 148, .p (.mv), [.l 10], none, 0, 1⟩, ⟨.t 149, .p (.ixsl 1), [.t 148, .c (.int .i64 1)], none, 0, 1⟩, ⟨.t 150, .r (.load false 1), [.t 149], none, 0, 1⟩, ⟨.t 152, .p (.mv), [.l 10], none, 0, 2⟩, ⟨.t 153, .p (.ixsl 1), [.t 152, .c (.int .i64 2)], none, 0, 2⟩, ⟨.t 154, .r (.load false 1), [.t 153], none, 0, 2⟩, ⟨.t 147, .call 290, [.t 143, .t 146], none, 0, 1⟩, ⟨.t 151, .call 211, [.t 150], none, 1, 2⟩, ⟨.t 155, .call 211, [.t 154], none, 2, 3⟩, ⟨.t 156, .p (.build [(.int .i64 0), (.int .i64 0), (.int .i64 0), (.str 0 0), (.str 0 0), (.int .i64 0), .nils, (.str 0 0), (.int .i64 0)] [(0, 1), (3, 1), (2, 1), (1, 1)]), [.c (.int .i64 6), .t 147, .t 151, .t 155], none, 3, 3⟩, ⟨.no, .e (.store 9), [.l 4, .t 156], none, 3, 4⟩])
 .ret)
 (.seq (.reg [⟨.t 158, .p (.bin .eql), [.l 64, .c (.int .i64 5)], none, 0, 0⟩, ⟨.l 157, .p (.mv), [.t 158], none, 0, 0⟩])
 (.cond (.l 157) (.seq (.regD [⟨.t 159, .p (.mv), [.l 0], none, 0, 0⟩, ⟨.t 160, .p (.mv), [.l 10], none, 0, 0⟩, ⟨.t 161, .p (.ixsl 1), [.t 160, .c (.int .i64 0)], none, 0, 0⟩, ⟨.t 162, .r (.load false 1), [.t 161], none, 0, 0⟩, ⟨.t 164, .p (.mv), [.l 10], none, 0, 1⟩, ⟨.t 165, .p (.ixsl 1), [.t 164, .c (.int .i64 1)], none, 0, 1⟩, ⟨.t 166, .r (.load false 1), [.t 165], none, 0, 1⟩, ⟨.t 168, .p (.mv), [.l 10], none, 0, 2⟩, ⟨.t 169, .p (.ixsl 1), [.t 168, .c (.int .i64 2)], none, 0, 2⟩, ⟨.t 170, .r (.load false 1), [.t 169], none, 0, 2⟩, ⟨.t 163, .call 290, [.t 159, .t 162], none, 0, 1⟩, ⟨.t 167, .call 211, [.t 166], none, 1, 2⟩, ⟨.t 171, .call 211, [.t 170], none, 2, 3⟩, ⟨.t 172, .p (.build [(.int .i64 0), (.int .i64 0), (.int .i64 0), (.str 0 0), (.str 0 0), (.int .i64 0), .nils, (.str 0 0), (.int .i64 0)] [(0, 1), (3, 1), (2, 1), (1, 1)]), [.c (.int .i64 3), .t 163, .t 167, .t 171], none, 3, 3⟩, ⟨.no, .e (.store 9), [.l 4, .t 172], none, 3, 4⟩])
 .ret)
 (.seq (.reg [⟨.t 174, .p (.bin .eql), [.l 64, .c (.int .i64 6)], none, 0, 0⟩, ⟨.l 173, .p (.mv), [.t 174], none, 0, 0⟩])
 (.cond (.l 173) (.seq (.reg [⟨.t 175, .p (.mv), [.l 10], none, 0, 0⟩, ⟨.t 176, .p (.ixsl 1), [.t 175, .c (.int .i64 0)], none, 0, 0⟩, ⟨.t 177, .r (.load false 1), [.t 176], none, 0, 0⟩, ⟨.t 178, .p (.toInt .i64), [.t 177], none, 0, 0⟩, ⟨.t 179, .call 158, [.t 178], none, 0, 0⟩, ⟨.no, .e (.store 9), [.l 4, .t 179], none, 0, 0⟩])
 .ret)
 .skip))))))))))))))))
 (.seq (.reg [⟨.t 180, .p (.mv), [.l 0], none, 0, 0⟩, ⟨.t 181, .p (.mv), [.l 9], none, 0, 0⟩, ⟨.t 182, .p (.mv), [.l 10], none, 0, 0⟩, ⟨.t 183, .call 217, [.t 180, .t 181, .t 182], none, 0, 0⟩, ⟨.t 184, .call 228, [.t 183], none, 0, 0⟩, ⟨.no, .e (.store 9), [.l 4, .t 184], none, 0, 0⟩])
 .ret))))))))),
 [.cell (.l 4) true 9]⟩
theorem cf212_ok : compF TP Tryz.f212 = some cf212 := by kernel_rfl
def cf213 : CF := ⟨2, (.seq (.reg [⟨.l 2, .a (.box), [.l 0], none, 0, 0⟩, ⟨.l 3, .a (.box), [.l 1], none, 0, 0⟩, ⟨.l 4, .p (.mv), [.c (.int .i64 0)], none, 0, 0⟩])
 (.seq (.seq (.reg [⟨.t 7, .p (.fa 0), [.l 2], none, 0, 0⟩, ⟨.t 8, .r (.load false 1), [.t 7], none, 0, 0⟩, ⟨.t 9, .p (.fa 0), [.l 3], none, 0, 0⟩, ⟨.t 10, .r (.load false 1), [.t 9], none, 0, 0⟩, ⟨.t 11, .call 292, [.t 8, .t 10], none, 0, 0⟩, ⟨.l 5, .p (.mv), [.t 11], none, 0, 0⟩])
 (.seq (.reg [⟨.t 12, .p (.mv), [.l 5], none, 0, 0⟩, ⟨.l 13, .p (.bin .neq), [.t 12, .c (.int .i64 0)], none, 0, 0⟩])
 (.cond (.l 13) (.seq (.reg [⟨.t 14, .p (.mv), [.l 5], none, 0, 0⟩, ⟨.l 4, .p (.mv), [.t 14], none, 0, 0⟩])
 .ret)
 .skip)))
 (.seq (.seq (.reg [⟨.t 15, .p (.fa 0), [.l 2], none, 0, 0⟩, ⟨.l 16, .r (.load false 1), [.t 15], none, 0, 0⟩])
 (.block 0 (.seq (.reg [⟨.t 18, .p (.bin .eql), [.l 16, .c (.int .i64 7)], none, 0, 0⟩, ⟨.l 17, .p (.mv), [.t 18], none, 0, 0⟩])
 (.cond (.l 17) (.seq (.reg [⟨.t 19, .p (.fa 6), [.l 2], none, 0, 0⟩, ⟨.t 20, .r (.load false 1), [.t 19], none, 0, 0⟩, ⟨.t 21, .p (.fa 6), [.l 3], none, 0, 0⟩, ⟨.t 22, .r (.load false 1), [.t 21], none, 0, 0⟩, ⟨.t 23, .call 293, [.t 20, .t 22], none, 0, 0⟩, ⟨.l 4, .p (.mv), [.t 23], none, 0, 0⟩])
 .ret)
 (.seq (.reg [⟨.t 25, .p (.bin .eql), [.l 16, .c (.int .i64 9)], none, 0, 0⟩, ⟨.l 24, .p (.mv), [.t 25], none, 0, 0⟩])
 (.cond (.l 24) (.seq (.reg [⟨.t 26, .p (.fa 6), [.l 2], none, 0, 0⟩, ⟨.t 27, .r (.load false 1), [.t 26], none, 0, 0⟩, ⟨.t 28, .p (.fa 6), [.l 3], none, 0, 0⟩, ⟨.t 29, .r (.load false 1), [.t 28], none, 0, 0⟩, ⟨.t 30, .call 294, [.t 27, .t 29], none, 0, 0⟩, ⟨.l 4, .p (.mv), [.t 30], none, 0, 0⟩])
 .ret)
 (.seq (.reg [⟨.t 32, .p (.bin .eql), [.l 16, .c (.int .i64 10)], none, 0, 0⟩, ⟨.l 31, .p (.mv), [.t 32], none, 0, 0⟩])
 (.cond (.l 31) (.seq (.reg [⟨.t 33, .r (.load true 9), [.l 2], none, 0, 0⟩, ⟨.t 34, .r (.load true 9), [.l 3], none, 0, 0⟩, ⟨.t 35, .call 295, [.t 33, .t 34], none, 0, 0⟩, ⟨.l 4, .p (.mv), [.t 35], none, 0, 0⟩])
 .ret)
 .skip))))))))
 (.seq (.seq (.regD [⟨.t 36, .p (.fa 3), [.l 2], none, 0, 0⟩, ⟨.t 37, .r (.load false 1), [.t 36], none, 0, 0⟩, ⟨.t 38, .p (.fa 3), [.l 3], none, 0, 0⟩, ⟨.t 39, .r (.load false 1), [.t 38], none, 0, 0⟩, ⟨.t 41, .p (.fa 4), [.l 2], none, 0, 1⟩, ⟨.t 42, .r (.load false 1), [.t 41], none, 0, 1⟩, ⟨.t 43, .p (.fa 4), [.l 3], none, 0, 1⟩, ⟨.t 44, .r (.load false 1), [.t 43], none, 0, 1⟩, ⟨.t 46, .p (.fa 2), [.l 2], none, 0, 2⟩, ⟨.t 47, .r (.load false 1), [.t 46], none, 0, 2⟩, ⟨.t 48, .p (.fa 2), [.l 3], none, 0, 2⟩, ⟨.t 49, .r (.load false 1), [.t 48], none, 0, 2⟩, ⟨.t 51, .p (.fa 1), [.l 2], none, 0, 3⟩, ⟨.t 52, .r (.load false 1), [.t 51], none, 0, 3⟩, ⟨.t 53, .p (.fa 1), [.l 3], none, 0, 3⟩, ⟨.t 54, .r (.load false 1), [.t 53], none, 0, 3⟩, ⟨.t 56, .p (.fa 5), [.l 2], none, 0, 4⟩, ⟨.t 57, .r (.load false 1), [.t 56], none, 0, 4⟩, ⟨.t 58, .p (.fa 5), [.l 3], none, 0, 4⟩, ⟨.t 59, .r (.load false 1), [.t 58], none, 0, 4⟩, ⟨.t 40, .call 297, [.t 37, .t 39], none, 0, 1⟩, ⟨.t 45, .call 297, [.t 42, .t 44], none, 1, 2⟩, ⟨.t 50, .call 298, [.t 47, .t 49], none, 2, 3⟩, ⟨.t 55, .call 298, [.t 52, .t 54], none, 3, 4⟩, ⟨.t 60, .call 292, [.t 57, .t 59], none, 4, 5⟩, ⟨.t 61, .a (.bslice [(.int .i64 0)] 5 1 [(0, 1), (1, 1), (2, 1), (3, 1), (4, 1)]), [.t 40, .t 45, .t 50, .t 55, .t 60], none, 5, 5⟩, ⟨.t 62, .call 296, [.t 61], none, 5, 6⟩, ⟨.l 6, .p (.mv), [.t 62], none, 6, 6⟩])
 (.seq (.reg [⟨.t 63, .p (.mv), [.l 6], none, 0, 0⟩, ⟨.l 64, .p (.bin .neq), [.t 63, .c (.int .i64 0)], none, 0, 0⟩])
 (.cond (.l 64) (.seq (.reg [⟨.t 65, .p (.mv), [.l 6], none, 0, 0⟩, ⟨.l 4, .p (.mv), [.t 65], none, 0, 0⟩])
 .ret)
 .skip)))
 (.seq (.reg [⟨.t 66, .p (.fa 6), [.l 2], none, 0, 0⟩, ⟨.t 67, .r (.load false 1), [.t 66], none, 0, 0⟩, ⟨.t 68, .p (.fa 6), [.l 3], none, 0, 0⟩, ⟨.t 69, .r (.load false 1), [.t 68], none, 0, 0⟩, ⟨.t 70, .call 293, [.t 67, .t 69], none, 0, 0⟩, ⟨.l 4, .p (.mv), [.t 70], none, 0, 0⟩])
 .ret))))),
 [.tmp (.l 4)]⟩
theorem cf213_ok : compF TP Tryz.f213 = some cf213 := by kernel_rfl
def cf215 : CF := ⟨3, (.seq (.reg [⟨.l 3, .a (.box), [.l 0], none, 0, 0⟩, ⟨.l 6, .a (.alloc [(.int .i64 0), (.int .i64 0), (.int .i64 0), (.str 0 0), (.str 0 0), (.int .i64 0), .nils, (.str 0 0), (.int .i64 0)]), [], none, 0, 0⟩, ⟨.l 7, .a (.alloc [(.str 0 0), (.int .i64 0), (.int .i64 0), (.int .i64 0), (.str 0 0), (.str 0 0), (.int .i64 0), .nils, (.str 0 0), (.int .i64 0)]), [], none, 0, 0⟩])
 (.seq (.seq (.reg [⟨.t 13, .p (.mv), [.l 1], none, 0, 0⟩, ⟨.t 14, .p (.bin .neq), [.t 13, .c (.str 3 4009789)], none, 0, 0⟩, ⟨.t 15, .p (.mv), [.t 14], none, 0, 0⟩, ⟨.t 16, .p (.mv), [.l 1], (some (.t 15, true)), 0, 0⟩, ⟨.t 17, .call 300, [.t 16, .c (.str 1 47)], (some (.t 15, true)), 0, 0⟩, ⟨.l 18, .p (.pick), [.t 15, .t 17, .c (.bool false)], none, 0, 0⟩])
 (.cond (.l 18) (.seq (.reg [⟨.t 19, .call 225, [.c (.str 5 439787744885)], none, 0, 0⟩, ⟨.t 20, .p (.ext 0), [.t 19], none, 0, 0⟩, ⟨.t 21, .p (.ext 1), [.t 19], none, 0, 0⟩, ⟨.no, .e (.store 9), [.l 6, .t 20], none, 0, 0⟩, ⟨.no, .e (.store 10), [.l 7, .t 21], none, 0, 0⟩])
 .ret)
 .skip))
 (.seq (.reg [⟨.t 22, .p (.mv), [.l 1], none, 0, 0⟩, ⟨.t 23, .p (.bin .add), [.t 22, .c (.str 1 47)], none, 0, 0⟩, ⟨.t 24, .p (.mv), [.l 2], none, 0, 0⟩, ⟨.t 25, .p (.leng .sl), [.t 24], none, 0, 0⟩, ⟨.t 26, .call 301, [.t 25], none, 0, 0⟩, ⟨.t 27, .p (.bin .add), [.t 23, .t 26], none, 0, 0⟩, ⟨.l 8, .p (.mv), [.t 27], none, 0, 0⟩])
 (.seq (.reg [⟨.l 9, .p (.mv), [.c .nilf], none, 0, 0⟩])
 (.seq (.seq (.reg [⟨.t 28, .p (.mv), [.l 2], none, 0, 0⟩, ⟨.l 29, .p (.leng .sl), [.t 28], none, 0, 0⟩])
 (.block 0 (.seq (.block 3 (.seq (.block 2 (.seq (.block 1 (.seq (.seq (.seq (.reg [⟨.t 31, .p (.bin .eql), [.l 29, .c (.int .i64 2)], none, 0, 0⟩, ⟨.l 30, .p (.mv), [.t 31], none, 0, 0⟩])
 (.cond (.l 30) (.exit 1)
 .skip))
 (.seq (.reg [⟨.t 33, .p (.bin .eql), [.l 29, .c (.int .i64 1)], none, 0, 0⟩, ⟨.l 32, .p (.mv), [.t 33], none, 0, 0⟩])
 (.cond (.l 32) (.exit 2)
 .skip)))
 (.exit 3)))
 (.seq (.reg [⟨.t 34, .call 302, [], none, 0, 0⟩, ⟨.t 35, .p (.mv), [.l 1], none, 0, 0⟩, ⟨.t 36, .r (.lookup (.one .s) false .nilf), [.t 34, .t 35], none, 0, 0⟩, ⟨.l 9, .p (.mv), [.t 36], none, 0, 0⟩])
 (.seq (.reg [⟨.t 37, .p (.mv), [.l 9], none, 0, 0⟩, ⟨.l 38, .p (.eqd .f true), [.t 37, .c .nilf], none, 0, 0⟩])
 (.cond (.l 38) (.exit 0)
 .skip)))))
 (.seq (.reg [⟨.t 39, .call 302, [], none, 0, 0⟩, ⟨.t 40, .p (.mv), [.l 8], none, 0, 0⟩, ⟨.t 41, .r (.lookup (.one .s) false .nilf), [.t 39, .t 40], none, 0, 0⟩, ⟨.l 10, .p (.mv), [.t 41], none, 0, 0⟩])
 (.seq (.reg [⟨.t 42, .p (.mv), [.l 10], none, 0, 0⟩, ⟨.l 43, .p (.eqd .f true), [.t 42, .c .nilf], none, 0, 0⟩])
 (.cond (.l 43) (.seq (.reg [⟨.t 44, .p (.mv), [.l 10], none, 0, 0⟩, ⟨.l 9, .p (.mv), [.t 44], none, 0, 0⟩])
 (.exit 0))
 .skip)))))
 (.seq (.seq (.reg [⟨.t 45, .p (.mv), [.l 1], none, 0, 0⟩, ⟨.t 46, .p (.mv), [.l 2], none, 0, 0⟩, ⟨.t 47, .p (.leng .sl), [.t 46], none, 0, 0⟩, ⟨.l 48, .call 238, [.t 45, .t 47], none, 0, 0⟩])
 (.block 4 (.seq (.reg [⟨.t 50, .p (.bin .eql), [.l 48, .c (.int .i64 1)], none, 0, 0⟩, ⟨.l 49, .p (.mv), [.t 50], none, 0, 0⟩])
 (.cond (.l 49) (.reg [⟨.t 51, .call 303, [], none, 0, 0⟩, ⟨.t 52, .p (.mv), [.l 8], none, 0, 0⟩, ⟨.t 53, .r (.lookup (.one .s) false .nilf), [.t 51, .t 52], none, 0, 0⟩, ⟨.l 9, .p (.mv), [.t 53], none, 0, 0⟩])
 (.seq (.reg [⟨.t 55, .p (.bin .eql), [.l 48, .c (.int .i64 2)], none, 0, 0⟩, ⟨.l 54, .p (.mv), [.t 55], none, 0, 0⟩])
 (.cond (.l 54) (.reg [⟨.t 56, .call 304, [], none, 0, 0⟩, ⟨.t 57, .p (.mv), [.l 8], none, 0, 0⟩, ⟨.t 58, .r (.lookup (.one .s) false .nilf), [.t 56, .t 57], none, 0, 0⟩, ⟨.l 9, .p (.mv), [.t 58], none, 0, 0⟩])
 .skip))))))
 (.exit 0)))))
 (.seq (.seq (.reg [⟨.t 59, .p (.mv), [.l 9], none, 0, 0⟩, ⟨.l 60, .p (.eqd .f false), [.t 59, .c .nilf], none, 0, 0⟩])
 (.cond (.l 60) (.seq (.reg [⟨.t 61, .call 225, [.c (.str 5 439787744885)], none, 0, 0⟩, ⟨.t 62, .p (.ext 0), [.t 61], none, 0, 0⟩, ⟨.t 63, .p (.ext 1), [.t 61], none, 0, 0⟩, ⟨.no, .e (.store 9), [.l 6, .t 62], none, 0, 0⟩, ⟨.no, .e (.store 10), [.l 7, .t 63], none, 0, 0⟩])
 .ret)
 .skip))
 (.seq (.seq (.reg [⟨.l 64, .p (.mv), [.l 2], none, 0, 0⟩, ⟨.l 65, .p (.leng .sl), [.l 64], none, 0, 0⟩, ⟨.l 66, .p (.mv), [.c (.int .i64 0)], none, 0, 0⟩])
 (.block 5 (.loop (.seq (.reg [⟨.l 67, .p (.bin .lss), [.l 66, .l 65], none, 0, 0⟩])
 (.seq (.cond (.l 67) .skip
 (.exit 5))
 (.seq (.block 6 (.seq (.reg [⟨.t 68, .p (.ixsl 9), [.l 64, .l 66], none, 0, 0⟩, ⟨.t 69, .r (.load true 9), [.t 68], none, 0, 0⟩, ⟨.l 12, .a (.alloc [(.int .i64 0), (.int .i64 0), (.int .i64 0), (.str 0 0), (.str 0 0), (.int .i64 0), .nils, (.str 0 0), (.int .i64 0)]), [], none, 0, 0⟩, ⟨.no, .e (.store 9), [.l 12, .t 69], none, 0, 0⟩])
 (.seq (.reg [⟨.t 70, .r (.load true 9), [.l 12], none, 0, 0⟩, ⟨.t 71, .call 29, [.t 70], none, 0, 0⟩, ⟨.l 72, .p (.un .not), [.t 71], none, 0, 0⟩])
 (.cond (.l 72) (.seq (.reg [⟨.t 73, .call 225, [.c (.str 6 113740957901154)], none, 0, 0⟩, ⟨.t 74, .p (.ext 0), [.t 73], none, 0, 0⟩, ⟨.t 75, .p (.ext 1), [.t 73], none, 0, 0⟩, ⟨.no, .e (.store 9), [.l 6, .t 74], none, 0, 0⟩, ⟨.no, .e (.store 10), [.l 7, .t 75], none, 0, 0⟩])
 .ret)
 .skip))))
 (.reg [⟨.t 76, .p (.bin .add), [.l 66, .c (.int .i64 1)], none, 0, 0⟩, ⟨.l 66, .p (.mv), [.t 76], none, 0, 0⟩])))))))
 (.seq (.reg [⟨.t 77, .p (.mv), [.l 9], none, 0, 0⟩, ⟨.t 78, .r (.load true 9), [.l 3], none, 0, 0⟩, ⟨.t 79, .p (.mv), [.l 2], none, 0, 0⟩, ⟨.t 80, .p (.build [(.int .i64 0), (.int .i64 0), (.int .i64 0), (.str 0 0), (.str 0 0), (.int .i64 0), .nils, (.str 0 0), (.int .i64 0), .nils] [(0, 9), (9, 1)]), [.t 78, .t 79], none, 0, 0⟩, ⟨.t 81, .callv, [.t 77, .t 80], none, 0, 0⟩, ⟨.t 82, .p (.ext 0), [.t 81], none, 0, 0⟩, ⟨.t 83, .p (.ext 1), [.t 81], none, 0, 0⟩, ⟨.no, .e (.store 9), [.l 6, .t 82], none, 0, 0⟩, ⟨.no, .e (.store 10), [.l 7, .t 83], none, 0, 0⟩])
 .ret)))))))),
 [.cell (.l 6) true 9, .cell (.l 7) true 10]⟩
theorem cf215_ok : compF TP Tryz.f215 = some cf215 := by kernel_rfl
def cf216 : CF := ⟨1, (.seq (.reg [⟨.l 2, .p (.mv), [.c .nils], none, 0, 0⟩])
 (.seq (.seq (.reg [⟨.t 3, .p (.mv), [.l 0], none, 0, 0⟩, ⟨.l 4, .p (.eqd .s false), [.t 3, .c .nils], none, 0, 0⟩])
 (.cond (.l 4) (.seq (.reg [⟨.l 2, .p (.mv), [.c .nils], none, 0, 0⟩])
 .ret)
 .skip))
 (.seq (.reg [⟨.t 5, .a (.bslice [(.int .u64 0)] 0 1 []), [], none, 0, 0⟩, ⟨.t 6, .p (.mv), [.l 0], none, 0, 0⟩, ⟨.t 7, .e (.append 1 8 none), [.t 5, .t 6], none, 0, 0⟩, ⟨.l 2, .p (.mv), [.t 7], none, 0, 0⟩])
 .ret))),
 [.tmp (.l 2)]⟩
theorem cf216_ok : compF TP Tryz.f216 = some cf216 := by kernel_rfl
def cf225 : CF := ⟨1, (.seq (.reg [⟨.l 2, .a (.alloc [(.int .i64 0), (.int .i64 0), (.int .i64 0), (.str 0 0), (.str 0 0), (.int .i64 0), .nils, (.str 0 0), (.int .i64 0)]), [], none, 0, 0⟩, ⟨.l 3, .a (.alloc [(.str 0 0), (.int .i64 0), (.int .i64 0), (.int .i64 0), (.str 0 0), (.str 0 0), (.int .i64 0), .nils, (.str 0 0), (.int .i64 0)]), [], none, 0, 0⟩])
 (.seq (.reg [⟨.t 4, .p (.build [(.int .i64 0), (.int .i64 0), (.int .i64 0), (.str 0 0), (.str 0 0), (.int .i64 0), .nils, (.str 0 0), (.int .i64 0)] []), [], none, 0, 0⟩, ⟨.t 5, .p (.mv), [.l 0], none, 0, 0⟩, ⟨.t 6, .call 312, [.t 5], none, 0, 0⟩, ⟨.no, .e (.store 9), [.l 2, .t 4], none, 0, 0⟩, ⟨.no, .e (.store 10), [.l 3, .t 6], none, 0, 0⟩])
 .ret)),
 [.cell (.l 2) true 9, .cell (.l 3) true 10]⟩
theorem cf225_ok : compF TP Tryz.f225 = some cf225 := by kernel_rfl
def cf227 : CF := ⟨1, (.seq (.reg [⟨.l 1, .a (.box), [.l 0], none, 0, 0⟩, ⟨.l 2, .a (.alloc [(.int .i64 0), (.int .i64 0), (.int .i64 0), (.str 0 0), (.str 0 0), (.int .i64 0), .nils, (.str 0 0), (.int .i64 0)]), [], none, 0, 0⟩, ⟨.l 3, .a (.alloc [(.str 0 0), (.int .i64 0), (.int .i64 0), (.int .i64 0), (.str 0 0), (.str 0 0), (.int .i64 0), .nils, (.str 0 0), (.int .i64 0)]), [], none, 0, 0⟩])
 (.seq (.reg [⟨.t 4, .r (.load true 9), [.l 1], none, 0, 0⟩, ⟨.t 5, .p (.build [(.str 0 0), (.int .i64 0), (.int .i64 0), (.int .i64 0), (.str 0 0), (.str 0 0), (.int .i64 0), .nils, (.str 0 0), (.int .i64 0)] []), [], none, 0, 0⟩, ⟨.no, .e (.store 9), [.l 2, .t 4], none, 0, 0⟩, ⟨.no, .e (.store 10), [.l 3, .t 5], none, 0, 0⟩])
 .ret)),
 [.cell (.l 2) true 9, .cell (.l 3) true 10]⟩
theorem cf227_ok : compF TP Tryz.f227 = some cf227 := by kernel_rfl
def cf233 : CF := ⟨1, (.seq (.reg [⟨.l 1, .a (.box), [.l 0], none, 0, 0⟩, ⟨.l 2, .p (.mv), [.c .nilf], none, 0, 0⟩])
 (.seq (.reg [⟨.t 3, .p (.mkf (.func 313) 0), [.l 1], none, 0, 0⟩, ⟨.l 2, .p (.mv), [.t 3], none, 0, 0⟩])
 .ret)),
 [.tmp (.l 2)]⟩
theorem cf233_ok : compF TP Tryz.f233 = some cf233 := by kernel_rfl
def cf234 : CF := ⟨3, (.seq (.reg [⟨.l 6, .p (.mv), [.c (.bool false)], none, 0, 0⟩])
 (.seq (.reg [⟨.t 7, .p (.mv), [.l 0], none, 0, 0⟩, ⟨.t 8, .p (.mv), [.l 1], none, 0, 0⟩, ⟨.t 9, .p (.bin .geq), [.t 7, .t 8], none, 0, 0⟩, ⟨.t 10, .p (.mv), [.t 9], none, 0, 0⟩, ⟨.t 11, .p (.mv), [.l 0], (some (.t 10, true)), 0, 0⟩, ⟨.t 12, .p (.mv), [.l 2], (some (.t 10, true)), 0, 0⟩, ⟨.t 13, .p (.bin .leq), [.t 11, .t 12], (some (.t 10, true)), 0, 0⟩, ⟨.t 14, .p (.pick), [.t 10, .t 13, .c (.bool false)], none, 0, 0⟩, ⟨.l 6, .p (.mv), [.t 14], none, 0, 0⟩])
 .ret)),
 [.tmp (.l 6)]⟩
theorem cf234_ok : compF TP Tryz.f234 = some cf234 := by kernel_rfl
def cf235 : CF := ⟨2, (.seq (.reg [⟨.l 3, .p (.mv), [.c (.bool false)], none, 0, 0⟩])
 (.seq (.reg [⟨.t 4, .p (.fa 0), [.l 1], none, 0, 0⟩, ⟨.t 5, .r (.load false 1), [.t 4], none, 0, 0⟩, ⟨.t 6, .p (.mv), [.l 0], none, 0, 0⟩, ⟨.t 7, .p (.bin .and), [.t 5, .t 6], none, 0, 0⟩, ⟨.t 8, .p (.bin .neq), [.t 7, .c (.int .i64 0)], none, 0, 0⟩, ⟨.l 3, .p (.mv), [.t 8], none, 0, 0⟩])
 .ret)),
 [.tmp (.l 3)]⟩
theorem cf235_ok : compF TP Tryz.f235 = some cf235 := by kernel_rfl
def cf236 : CF := ⟨2, (.seq (.reg [⟨.l 3, .a (.box), [.l 1], none, 0, 0⟩, ⟨.l 4, .p (.mv), [.c (.bool false)], none, 0, 0⟩])
 (.seq (.seq (.reg [⟨.t 5, .p (.fa 0), [.l 3], none, 0, 0⟩, ⟨.l 6, .r (.load false 1), [.t 5], none, 0, 0⟩])
 (.block 0 (.seq (.reg [⟨.t 8, .p (.bin .eql), [.l 6, .c (.int .i64 1)], none, 0, 0⟩, ⟨.l 7, .p (.mv), [.t 8], none, 0, 0⟩])
 (.cond (.l 7) (.seq (.reg [⟨.t 9, .p (.fa 1), [.l 3], none, 0, 0⟩, ⟨.t 10, .r (.load false 1), [.t 9], none, 0, 0⟩, ⟨.t 11, .call 234, [.t 10, .c (.int .i64 0), .c (.int .i64 255)], none, 0, 0⟩, ⟨.l 4, .p (.mv), [.t 11], none, 0, 0⟩])
 .ret)
 (.seq (.reg [⟨.t 13, .p (.bin .eql), [.l 6, .c (.int .i64 2)], none, 0, 0⟩, ⟨.l 12, .p (.mv), [.t 13], none, 0, 0⟩])
 (.cond (.l 12) (.seq (.reg [⟨.t 14, .p (.fa 1), [.l 3], none, 0, 0⟩, ⟨.t 15, .r (.load false 1), [.t 14], none, 0, 0⟩, ⟨.t 16, .call 234, [.t 15, .c (.int .i64 0), .c (.int .i64 8191)], none, 0, 0⟩, ⟨.l 4, .p (.mv), [.t 16], none, 0, 0⟩])
 .ret)
 (.seq (.reg [⟨.t 18, .p (.bin .eql), [.l 6, .c (.int .i64 3)], none, 0, 0⟩, ⟨.l 17, .p (.mv), [.t 18], none, 0, 0⟩])
 (.cond (.l 17) (.seq (.regD [⟨.t 19, .p (.fa 1), [.l 3], none, 0, 0⟩, ⟨.t 20, .r (.load false 1), [.t 19], none, 0, 0⟩, ⟨.t 21, .p (.mv), [.l 0], none, 0, 0⟩, ⟨.t 22, .p (.nilc), [.t 21], none, 0, 0⟩, ⟨.t 23, .p (.fa 2), [.t 22], none, 0, 0⟩, ⟨.t 24, .r (.load false 1), [.t 23], none, 0, 0⟩, ⟨.t 25, .p (.leng .sl), [.t 24], none, 0, 0⟩, ⟨.t 26, .p (.bin .sub), [.t 25, .c (.int .i64 1)], none, 0, 0⟩, ⟨.t 27, .call 234, [.t 20, .c (.int .i64 0), .t 26], none, 0, 1⟩, ⟨.l 4, .p (.mv), [.t 27], none, 1, 1⟩])
 .ret)
 .skip))))))))
 (.seq (.reg [⟨.l 4, .p (.mv), [.c (.bool false)], none, 0, 0⟩])
 .ret))),
 [.tmp (.l 4)]⟩
theorem cf236_ok : compF TP Tryz.f236 = some cf236 := by kernel_rfl
def cf237 : CF := ⟨2, (.seq (.reg [⟨.l 4, .p (.mv), [.c (.bool false)], none, 0, 0⟩])
 (.seq (.seq (.reg [⟨.l 5, .p (.mv), [.l 0], none, 0, 0⟩])
 (.block 0 (.seq (.reg [⟨.t 7, .p (.bin .eql), [.l 5, .c (.str 1 45)], none, 0, 0⟩, ⟨.l 6, .p (.mv), [.t 7], none, 0, 0⟩])
 (.cond (.l 6) (.seq (.reg [⟨.t 8, .p (.mv), [.l 1], none, 0, 0⟩, ⟨.t 9, .p (.bin .eql), [.t 8, .c (.int .i64 1)], none, 0, 0⟩, ⟨.t 10, .p (.mv), [.t 9], none, 0, 0⟩, ⟨.t 11, .p (.mv), [.l 1], (some (.t 10, false)), 0, 0⟩, ⟨.t 12, .p (.bin .eql), [.t 11, .c (.int .i64 2)], (some (.t 10, false)), 0, 0⟩, ⟨.t 13, .p (.pick), [.t 10, .c (.bool true), .t 12], none, 0, 0⟩, ⟨.l 4, .p (.mv), [.t 13], none, 0, 0⟩])
 .ret)
 (.seq (.seq (.reg [⟨.t 15, .p (.bin .eql), [.l 5, .c (.str 4 1953459810)], none, 0, 0⟩, ⟨.l 14, .p (.mv), [.t 15], none, 0, 0⟩])
 (.cond (.l 14) .skip
 (.reg [⟨.t 16, .p (.bin .eql), [.l 5, .c (.str 3 7630702)], none, 0, 0⟩, ⟨.l 14, .p (.mv), [.t 16], none, 0, 0⟩])))
 (.cond (.l 14) (.seq (.reg [⟨.t 17, .p (.mv), [.l 1], none, 0, 0⟩, ⟨.t 18, .p (.bin .eql), [.t 17, .c (.int .i64 1)], none, 0, 0⟩, ⟨.l 4, .p (.mv), [.t 18], none, 0, 0⟩])
 .ret)
 (.seq (.seq (.reg [⟨.t 20, .p (.bin .eql), [.l 5, .c (.str 1 43)], none, 0, 0⟩, ⟨.l 19, .p (.mv), [.t 20], none, 0, 0⟩])
 (.cond (.l 19) .skip
 (.seq (.reg [⟨.t 21, .p (.bin .eql), [.l 5, .c (.str 1 42)], none, 0, 0⟩, ⟨.l 19, .p (.mv), [.t 21], none, 0, 0⟩])
 (.cond (.l 19) .skip
 (.seq (.reg [⟨.t 22, .p (.bin .eql), [.l 5, .c (.str 3 7760228)], none, 0, 0⟩, ⟨.l 19, .p (.mv), [.t 22], none, 0, 0⟩])
 (.cond (.l 19) .skip
 (.seq (.reg [⟨.t 23, .p (.bin .eql), [.l 5, .c (.str 3 7169394)], none, 0, 0⟩, ⟨.l 19, .p (.mv), [.t 23], none, 0, 0⟩])
 (.cond (.l 19) .skip
 (.seq (.reg [⟨.t 24, .p (.bin .eql), [.l 5, .c (.str 4 1684955490)], none, 0, 0⟩, ⟨.l 19, .p (.mv), [.t 24], none, 0, 0⟩])
 (.cond (.l 19) .skip
 (.seq (.reg [⟨.t 25, .p (.bin .eql), [.l 5, .c (.str 3 7499618)], none, 0, 0⟩, ⟨.l 19, .p (.mv), [.t 25], none, 0, 0⟩])
 (.cond (.l 19) .skip
 (.seq (.reg [⟨.t 26, .p (.bin .eql), [.l 5, .c (.str 4 1919907938)], none, 0, 0⟩, ⟨.l 19, .p (.mv), [.t 26], none, 0, 0⟩])
 (.cond (.l 19) .skip
 (.seq (.reg [⟨.t 27, .p (.bin .eql), [.l 5, .c (.str 3 7107426)], none, 0, 0⟩, ⟨.l 19, .p (.mv), [.t 27], none, 0, 0⟩])
 (.cond (.l 19) .skip
 (.seq (.reg [⟨.t 28, .p (.bin .eql), [.l 5, .c (.str 3 7500642)], none, 0, 0⟩, ⟨.l 19, .p (.mv), [.t 28], none, 0, 0⟩])
 (.cond (.l 19) .skip
 (.seq (.reg [⟨.t 29, .p (.bin .eql), [.l 5, .c (.str 3 6581857)], none, 0, 0⟩, ⟨.l 19, .p (.mv), [.t 29], none, 0, 0⟩])
 (.cond (.l 19) .skip
 (.seq (.reg [⟨.t 30, .p (.bin .eql), [.l 5, .c (.str 2 29295)], none, 0, 0⟩, ⟨.l 19, .p (.mv), [.t 30], none, 0, 0⟩])
 (.cond (.l 19) .skip
 (.seq (.reg [⟨.t 31, .p (.bin .eql), [.l 5, .c (.str 3 7499640)], none, 0, 0⟩, ⟨.l 19, .p (.mv), [.t 31], none, 0, 0⟩])
 (.cond (.l 19) .skip
 (.seq (.reg [⟨.t 32, .p (.bin .eql), [.l 5, .c (.str 3 4012605)], none, 0, 0⟩, ⟨.l 19, .p (.mv), [.t 32], none, 0, 0⟩])
 (.cond (.l 19) .skip
 (.seq (.reg [⟨.t 33, .p (.bin .eql), [.l 5, .c (.str 3 4009789)], none, 0, 0⟩, ⟨.l 19, .p (.mv), [.t 33], none, 0, 0⟩])
 (.cond (.l 19) .skip
 (.seq (.reg [⟨.t 34, .p (.bin .eql), [.l 5, .c (.str 1 60)], none, 0, 0⟩, ⟨.l 19, .p (.mv), [.t 34], none, 0, 0⟩])
 (.cond (.l 19) .skip
 (.seq (.reg [⟨.t 35, .p (.bin .eql), [.l 5, .c (.str 2 15421)], none, 0, 0⟩, ⟨.l 19, .p (.mv), [.t 35], none, 0, 0⟩])
 (.cond (.l 19) .skip
 (.seq (.reg [⟨.t 36, .p (.bin .eql), [.l 5, .c (.str 1 62)], none, 0, 0⟩, ⟨.l 19, .p (.mv), [.t 36], none, 0, 0⟩])
 (.cond (.l 19) .skip
 (.seq (.reg [⟨.t 37, .p (.bin .eql), [.l 5, .c (.str 2 15678)], none, 0, 0⟩, ⟨.l 19, .p (.mv), [.t 37], none, 0, 0⟩])
 (.cond (.l 19) .skip
 (.reg [⟨.t 38, .p (.bin .eql), [.l 5, .c (.str 2 11051)], none, 0, 0⟩, ⟨.l 19, .p (.mv), [.t 38], none, 0, 0⟩])))))))))))))))))))))))))))))))))))))
 (.cond (.l 19) (.seq (.reg [⟨.t 39, .p (.mv), [.l 1], none, 0, 0⟩, ⟨.t 40, .p (.bin .eql), [.t 39, .c (.int .i64 2)], none, 0, 0⟩, ⟨.l 4, .p (.mv), [.t 40], none, 0, 0⟩])
 .ret)
 .skip))))))))
 (.seq (.reg [⟨.l 4, .p (.mv), [.c (.bool false)], none, 0, 0⟩])
 .ret))),
 [.tmp (.l 4)]⟩
theorem cf237_ok : compF TP Tryz.f237 = some cf237 := by kernel_rfl
def cf238 : CF := ⟨2, (.seq (.reg [⟨.l 4, .p (.mv), [.c (.int .i64 0)], none, 0, 0⟩])
 (.seq (.seq (.reg [⟨.t 5, .p (.mv), [.l 1], none, 0, 0⟩, ⟨.t 6, .p (.bin .lss), [.t 5, .c (.int .i64 0)], none, 0, 0⟩, ⟨.t 7, .p (.mv), [.t 6], none, 0, 0⟩, ⟨.t 8, .p (.mv), [.l 0], (some (.t 7, false)), 0, 0⟩, ⟨.t 9, .call 300, [.t 8, .c (.str 1 47)], (some (.t 7, false)), 0, 0⟩, ⟨.l 10, .p (.pick), [.t 7, .c (.bool true), .t 9], none, 0, 0⟩])
 (.cond (.l 10) (.seq (.reg [⟨.l 4, .p (.mv), [.c (.int .i64 0)], none, 0, 0⟩])
 .ret)
 .skip))
 (.seq (.reg [⟨.t 11, .call 314, [], none, 0, 0⟩, ⟨.t 12, .p (.mv), [.l 0], none, 0, 0⟩, ⟨.t 13, .p (.bin .add), [.t 12, .c (.str 1 47)], none, 0, 0⟩, ⟨.t 14, .p (.mv), [.l 1], none, 0, 0⟩, ⟨.t 15, .call 301, [.t 14], none, 0, 0⟩, ⟨.t 16, .p (.bin .add), [.t 13, .t 15], none, 0, 0⟩, ⟨.t 17, .r (.lookup (.one .s) false (.int .i64 0)), [.t 11, .t 16], none, 0, 0⟩, ⟨.l 4, .p (.mv), [.t 17], none, 0, 0⟩])
 .ret))),
 [.tmp (.l 4)]⟩
theorem cf238_ok : compF TP Tryz.f238 = some cf238 := by kernel_rfl
def cf242 : CF := ⟨1, (.seq (.reg [⟨.l 2, .p (.mv), [.c .nils], none, 0, 0⟩])
 (.seq (.reg [⟨.t 5, .p (.mv), [.l 0], none, 0, 0⟩, ⟨.t 6, .a (.mks [(.int .i64 0)] 8), [.t 5, .t 5], none, 0, 0⟩, ⟨.l 3, .p (.mv), [.t 6], none, 0, 0⟩])
 (.seq (.seq (.reg [⟨.t 7, .p (.mv), [.l 3], none, 0, 0⟩, ⟨.l 8, .p (.leng .sl), [.t 7], none, 0, 0⟩, ⟨.l 9, .p (.mv), [.c (.int .i64 0)], none, 0, 0⟩])
 (.block 0 (.loop (.seq (.reg [⟨.l 10, .p (.bin .lss), [.l 9, .l 8], none, 0, 0⟩])
 (.seq (.cond (.l 10) .skip
 (.exit 0))
 (.seq (.block 1 (.seq (.reg [⟨.t 11, .p (.mv), [.l 9], none, 0, 0⟩, ⟨.l 4, .p (.mv), [.t 11], none, 0, 0⟩])
 (.reg [⟨.t 12, .p (.mv), [.l 3], none, 0, 0⟩, ⟨.t 13, .p (.mv), [.l 4], none, 0, 0⟩, ⟨.t 14, .p (.ixsl 1), [.t 12, .t 13], none, 0, 0⟩, ⟨.no, .e (.store 1), [.t 14, .c (.int .i64 1)], none, 0, 0⟩])))
 (.reg [⟨.t 15, .p (.bin .add), [.l 9, .c (.int .i64 1)], none, 0, 0⟩, ⟨.l 9, .p (.mv), [.t 15], none, 0, 0⟩])))))))
 (.seq (.reg [⟨.t 16, .p (.mv), [.l 3], none, 0, 0⟩, ⟨.l 2, .p (.mv), [.t 16], none, 0, 0⟩])
 .ret)))),
 [.tmp (.l 2)]⟩
theorem cf242_ok : compF TP Tryz.f242 = some cf242 := by kernel_rfl
def cf243 : CF := ⟨3, (.seq (.reg [⟨.l 6, .p (.mv), [.c (.int .i64 0)], none, 0, 0⟩])
 (.seq (.seq (.reg [⟨.t 18, .p (.mv), [.l 2], none, 0, 0⟩, ⟨.t 19, .p (.nilc), [.t 18], none, 0, 0⟩, ⟨.t 20, .p (.fa 3), [.t 19], none, 0, 0⟩, ⟨.l 21, .r (.load false 1), [.t 20], none, 0, 0⟩, ⟨.l 22, .p (.leng .sl), [.l 21], none, 0, 0⟩, ⟨.l 23, .p (.mv), [.c (.int .i64 0)], none, 0, 0⟩])
 (.block 0 (.loop (.seq (.reg [⟨.l 24, .p (.bin .lss), [.l 23, .l 22], none, 0, 0⟩])
 (.seq (.cond (.l 24) .skip
 (.exit 0))
 (.seq (.block 1 (.seq (.reg [⟨.t 25, .p (.ixsl 2), [.l 21, .l 23], none, 0, 0⟩, ⟨.t 26, .r (.load true 2), [.t 25], none, 0, 0⟩, ⟨.l 8, .a (.alloc [(.int .i64 0), (.int .i64 0)]), [], none, 0, 0⟩, ⟨.no, .e (.store 2), [.l 8, .t 26], none, 0, 0⟩])
 (.seq (.reg [⟨.t 28, .p (.mv), [.l 0], none, 0, 0⟩, ⟨.t 29, .p (.mv), [.l 1], none, 0, 0⟩, ⟨.t 30, .r (.load true 2), [.l 8], none, 0, 0⟩, ⟨.t 31, .call 318, [.t 28, .t 29, .t 30], none, 0, 0⟩, ⟨.t 27, .p (.mv), [.t 31], none, 0, 0⟩, ⟨.t 32, .p (.ext 0), [.t 27], none, 0, 0⟩, ⟨.t 33, .p (.ext 1), [.t 27], none, 0, 0⟩, ⟨.t 9, .p (.mv), [.t 32], none, 0, 0⟩, ⟨.l 10, .p (.mv), [.t 33], none, 0, 0⟩])
 (.seq (.reg [⟨.t 34, .p (.mv), [.l 10], none, 0, 0⟩, ⟨.l 35, .p (.bin .neq), [.t 34, .c (.int .i64 0)], none, 0, 0⟩])
 (.cond (.l 35) (.seq (.reg [⟨.t 36, .p (.mv), [.l 10], none, 0, 0⟩, ⟨.l 6, .p (.mv), [.t 36], none, 0, 0⟩])
 .ret)
 .skip)))))
 (.reg [⟨.t 37, .p (.bin .add), [.l 23, .c (.int .i64 1)], none, 0, 0⟩, ⟨.l 23, .p (.mv), [.t 37], none, 0, 0⟩])))))))
 (.seq (.seq (.reg [⟨.t 38, .p (.mv), [.l 2], none, 0, 0⟩, ⟨.t 39, .p (.nilc), [.t 38], none, 0, 0⟩, ⟨.t 40, .p (.fa 9), [.t 39], none, 0, 0⟩, ⟨.l 41, .r (.load false 1), [.t 40], none, 0, 0⟩, ⟨.l 42, .p (.leng .sl), [.l 41], none, 0, 0⟩, ⟨.l 43, .p (.mv), [.c (.int .i64 0)], none, 0, 0⟩])
 (.block 2 (.loop (.seq (.reg [⟨.l 44, .p (.bin .lss), [.l 43, .l 42], none, 0, 0⟩])
 (.seq (.cond (.l 44) .skip
 (.exit 2))
 (.seq (.block 3 (.seq (.reg [⟨.t 45, .p (.ixsl 6), [.l 41, .l 43], none, 0, 0⟩, ⟨.t 46, .r (.load true 6), [.t 45], none, 0, 0⟩, ⟨.l 12, .a (.alloc [(.int .i64 0), (.int .i64 0), (.int .i64 0), (.int .i64 0), (.int .i64 0), (.bool false)]), [], none, 0, 0⟩, ⟨.no, .e (.store 6), [.l 12, .t 46], none, 0, 0⟩])
 (.seq (.seq (.reg [⟨.t 48, .p (.mv), [.l 0], none, 0, 0⟩, ⟨.t 49, .p (.mv), [.l 1], none, 0, 0⟩, ⟨.t 50, .p (.fa 1), [.l 12], none, 0, 0⟩, ⟨.t 51, .r (.load true 2), [.t 50], none, 0, 0⟩, ⟨.t 52, .call 318, [.t 48, .t 49, .t 51], none, 0, 0⟩, ⟨.t 47, .p (.mv), [.t 52], none, 0, 0⟩, ⟨.t 53, .p (.ext 0), [.t 47], none, 0, 0⟩, ⟨.t 54, .p (.ext 1), [.t 47], none, 0, 0⟩, ⟨.t 13, .p (.mv), [.t 53], none, 0, 0⟩, ⟨.l 14, .p (.mv), [.t 54], none, 0, 0⟩])
 (.seq (.reg [⟨.t 55, .p (.mv), [.l 14], none, 0, 0⟩, ⟨.l 56, .p (.bin .neq), [.t 55, .c (.int .i64 0)], none, 0, 0⟩])
 (.cond (.l 56) (.seq (.reg [⟨.t 57, .p (.mv), [.l 14], none, 0, 0⟩, ⟨.l 6, .p (.mv), [.t 57], none, 0, 0⟩])
 .ret)
 .skip)))
 (.seq (.seq (.reg [⟨.t 58, .p (.fa 3), [.l 12], none, 0, 0⟩, ⟨.t 59, .r (.load true 2), [.t 58], none, 0, 0⟩, ⟨.t 60, .p (.build [(.int .i64 0), (.int .i64 0)] []), [], none, 0, 0⟩, ⟨.l 61, .r (.eq (.agg [.i, .i]) false), [.t 59, .t 60], none, 0, 0⟩])
 (.cond (.l 61) (.exit 3)
 .skip))
 (.seq (.reg [⟨.t 63, .p (.mv), [.l 0], none, 0, 0⟩, ⟨.t 64, .p (.mv), [.l 1], none, 0, 0⟩, ⟨.t 65, .p (.fa 3), [.l 12], none, 0, 0⟩, ⟨.t 66, .r (.load true 2), [.t 65], none, 0, 0⟩, ⟨.t 67, .call 318, [.t 63, .t 64, .t 66], none, 0, 0⟩, ⟨.t 62, .p (.mv), [.t 67], none, 0, 0⟩, ⟨.t 68, .p (.ext 0), [.t 62], none, 0, 0⟩, ⟨.t 69, .p (.ext 1), [.t 62], none, 0, 0⟩, ⟨.t 15, .p (.mv), [.t 68], none, 0, 0⟩, ⟨.l 16, .p (.mv), [.t 69], none, 0, 0⟩])
 (.seq (.reg [⟨.t 70, .p (.mv), [.l 16], none, 0, 0⟩, ⟨.l 71, .p (.bin .neq), [.t 70, .c (.int .i64 0)], none, 0, 0⟩])
 (.cond (.l 71) (.seq (.reg [⟨.t 72, .p (.mv), [.l 16], none, 0, 0⟩, ⟨.l 6, .p (.mv), [.t 72], none, 0, 0⟩])
 .ret)
 .skip)))))))
 (.reg [⟨.t 73, .p (.bin .add), [.l 43, .c (.int .i64 1)], none, 0, 0⟩, ⟨.l 43, .p (.mv), [.t 73], none, 0, 0⟩])))))))
 (.seq (.seq (.reg [⟨.t 74, .p (.mv), [.l 0], none, 0, 0⟩, ⟨.t 75, .p (.mv), [.l 2], none, 0, 0⟩, ⟨.l 76, .call 319, [.t 74, .t 75], none, 0, 0⟩, ⟨.l 77, .p (.mv), [.c (.int .i64 0)], none, 0, 0⟩])
 (.block 4 (.loop (.seq (.reg [⟨.l 78, .p (.bin .lss), [.l 77, .l 76], none, 0, 0⟩])
 (.seq (.cond (.l 78) .skip
 (.exit 4))
 (.seq (.block 5 (.seq (.reg [⟨.t 79, .p (.mv), [.l 77], none, 0, 0⟩, ⟨.l 17, .p (.mv), [.t 79], none, 0, 0⟩])
 (.seq (.reg [⟨.t 80, .p (.mv), [.l 1], none, 0, 0⟩, ⟨.t 81, .p (.mv), [.l 17], none, 0, 0⟩, ⟨.t 82, .call 320, [.t 80, .t 81], none, 0, 0⟩, ⟨.l 83, .p (.bin .eql), [.t 82, .c (.int .i64 0)], none, 0, 0⟩])
 (.cond (.l 83) (.seq (.reg [⟨.l 6, .p (.mv), [.c (.int .i64 186)], none, 0, 0⟩])
 .ret)
 .skip))))
 (.reg [⟨.t 84, .p (.bin .add), [.l 77, .c (.int .i64 1)], none, 0, 0⟩, ⟨.l 77, .p (.mv), [.t 84], none, 0, 0⟩])))))))
 (.seq (.regD [⟨.t 85, .p (.mv), [.l 2], none, 0, 0⟩, ⟨.t 86, .p (.nilc), [.t 85], none, 0, 0⟩, ⟨.t 87, .p (.fa 1), [.t 86], none, 0, 0⟩, ⟨.t 88, .p (.fa 0), [.t 87], none, 0, 0⟩, ⟨.t 89, .r (.load false 1), [.t 88], none, 0, 0⟩, ⟨.t 90, .p (.bin .eql), [.t 89, .c (.int .i64 2)], none, 0, 0⟩, ⟨.t 91, .p (.mv), [.t 90], none, 0, 0⟩, ⟨.t 92, .p (.mv), [.l 2], (some (.t 91, true)), 0, 0⟩, ⟨.t 93, .p (.nilc), [.t 92], (some (.t 91, true)), 0, 0⟩, ⟨.t 94, .p (.fa 1), [.t 93], (some (.t 91, true)), 0, 0⟩, ⟨.t 95, .p (.fa 1), [.t 94], (some (.t 91, true)), 0, 0⟩, ⟨.t 96, .r (.load false 1), [.t 95], (some (.t 91, true)), 0, 0⟩, ⟨.t 97, .p (.mv), [.l 1], (some (.t 91, true)), 0, 0⟩, ⟨.t 98, .p (.nilc), [.t 97], (some (.t 91, true)), 0, 0⟩, ⟨.t 99, .p (.fa 0), [.t 98], (some (.t 91, true)), 0, 0⟩, ⟨.t 100, .r (.load false 1), [.t 99], (some (.t 91, true)), 0, 0⟩, ⟨.t 101, .p (.bin .geq), [.t 96, .t 100], (some (.t 91, true)), 0, 0⟩, ⟨.t 102, .p (.pick), [.t 91, .t 101, .c (.bool false)], none, 0, 0⟩, ⟨.t 103, .call 247, [.t 102, .c (.int .i64 181)], none, 0, 1⟩, ⟨.l 6, .p (.mv), [.t 103], none, 1, 1⟩])
 .ret))))),
 [.tmp (.l 6)]⟩
theorem cf243_ok : compF TP Tryz.f243 = some cf243 := by kernel_rfl
def cf244 : CF := ⟨3, (.seq (.reg [⟨.l 6, .p (.mv), [.c (.int .i64 0)], none, 0, 0⟩])
 (.seq (.seq (.reg [⟨.t 11, .p (.mv), [.l 2], none, 0, 0⟩, ⟨.t 12, .p (.nilc), [.t 11], none, 0, 0⟩, ⟨.t 13, .p (.fa 0), [.t 12], none, 0, 0⟩, ⟨.l 14, .r (.load false 1), [.t 13], none, 0, 0⟩])
 (.block 0 (.seq (.reg [⟨.t 16, .p (.bin .eql), [.l 14, .c (.int .i64 5)], none, 0, 0⟩, ⟨.l 15, .p (.mv), [.t 16], none, 0, 0⟩])
 (.cond (.l 15) (.seq (.reg [⟨.t 18, .p (.mv), [.l 0], none, 0, 0⟩, ⟨.t 19, .p (.mv), [.l 1], none, 0, 0⟩, ⟨.t 20, .p (.mv), [.l 2], none, 0, 0⟩, ⟨.t 21, .p (.nilc), [.t 20], none, 0, 0⟩, ⟨.t 22, .p (.fa 3), [.t 21], none, 0, 0⟩, ⟨.t 23, .r (.load false 1), [.t 22], none, 0, 0⟩, ⟨.t 24, .p (.ixsl 2), [.t 23, .c (.int .i64 0)], none, 0, 0⟩, ⟨.t 25, .r (.load true 2), [.t 24], none, 0, 0⟩, ⟨.t 26, .call 318, [.t 18, .t 19, .t 25], none, 0, 0⟩, ⟨.t 17, .p (.mv), [.t 26], none, 0, 0⟩, ⟨.t 27, .p (.ext 0), [.t 17], none, 0, 0⟩, ⟨.t 28, .p (.ext 1), [.t 17], none, 0, 0⟩, ⟨.l 7, .p (.mv), [.t 27], none, 0, 0⟩, ⟨.t 8, .p (.mv), [.t 28], none, 0, 0⟩])
 (.seq (.reg [⟨.t 29, .p (.mv), [.l 7], none, 0, 0⟩, ⟨.t 30, .p (.mv), [.l 2], none, 0, 0⟩, ⟨.t 31, .p (.nilc), [.t 30], none, 0, 0⟩, ⟨.t 32, .p (.fa 5), [.t 31], none, 0, 0⟩, ⟨.t 33, .r (.load false 1), [.t 32], none, 0, 0⟩, ⟨.t 34, .p (.bin .add), [.c (.int .i64 3), .t 33], none, 0, 0⟩, ⟨.t 35, .p (.bin .add), [.t 34, .c (.int .i64 1)], none, 0, 0⟩, ⟨.t 36, .p (.bin .lss), [.t 29, .t 35], none, 0, 0⟩, ⟨.t 37, .call 247, [.t 36, .c (.int .i64 180)], none, 0, 0⟩, ⟨.l 6, .p (.mv), [.t 37], none, 0, 0⟩])
 .ret))
 (.seq (.seq (.reg [⟨.t 39, .p (.bin .eql), [.l 14, .c (.int .i64 6)], none, 0, 0⟩, ⟨.l 38, .p (.mv), [.t 39], none, 0, 0⟩])
 (.cond (.l 38) .skip
 (.reg [⟨.t 40, .p (.bin .eql), [.l 14, .c (.int .i64 7)], none, 0, 0⟩, ⟨.l 38, .p (.mv), [.t 40], none, 0, 0⟩])))
 (.cond (.l 38) (.seq (.reg [⟨.t 42, .p (.mv), [.l 0], none, 0, 0⟩, ⟨.t 43, .p (.mv), [.l 1], none, 0, 0⟩, ⟨.t 44, .p (.mv), [.l 2], none, 0, 0⟩, ⟨.t 45, .p (.nilc), [.t 44], none, 0, 0⟩, ⟨.t 46, .p (.fa 3), [.t 45], none, 0, 0⟩, ⟨.t 47, .r (.load false 1), [.t 46], none, 0, 0⟩, ⟨.t 48, .p (.ixsl 2), [.t 47, .c (.int .i64 0)], none, 0, 0⟩, ⟨.t 49, .r (.load true 2), [.t 48], none, 0, 0⟩, ⟨.t 50, .call 318, [.t 42, .t 43, .t 49], none, 0, 0⟩, ⟨.t 41, .p (.mv), [.t 50], none, 0, 0⟩, ⟨.t 51, .p (.ext 0), [.t 41], none, 0, 0⟩, ⟨.t 52, .p (.ext 1), [.t 41], none, 0, 0⟩, ⟨.l 9, .p (.mv), [.t 51], none, 0, 0⟩, ⟨.t 10, .p (.mv), [.t 52], none, 0, 0⟩])
 (.seq (.reg [⟨.t 53, .p (.mv), [.l 9], none, 0, 0⟩, ⟨.t 54, .p (.bin .neq), [.t 53, .c (.int .i64 2)], none, 0, 0⟩, ⟨.t 55, .call 247, [.t 54, .c (.int .i64 180)], none, 0, 0⟩, ⟨.l 6, .p (.mv), [.t 55], none, 0, 0⟩])
 .ret))
 .skip))))))
 (.seq (.reg [⟨.l 6, .p (.mv), [.c (.int .i64 0)], none, 0, 0⟩])
 .ret))),
 [.tmp (.l 6)]⟩
theorem cf244_ok : compF TP Tryz.f244 = some cf244 := by kernel_rfl
def cf245 : CF := ⟨3, (.seq (.reg [⟨.l 6, .p (.mv), [.c (.int .i64 0)], none, 0, 0⟩])
 (.seq (.seq (.reg [⟨.t 7, .p (.mv), [.l 2], none, 0, 0⟩, ⟨.t 8, .p (.nilc), [.t 7], none, 0, 0⟩, ⟨.t 9, .p (.fa 0), [.t 8], none, 0, 0⟩, ⟨.l 10, .r (.load false 1), [.t 9], none, 0, 0⟩])
 (.block 0 (.seq (.seq (.reg [⟨.t 12, .p (.bin .eql), [.l 10, .c (.int .i64 37)], none, 0, 0⟩, ⟨.l 11, .p (.mv), [.t 12], none, 0, 0⟩])
 (.cond (.l 11) .skip
 (.reg [⟨.t 13, .p (.bin .eql), [.l 10, .c (.int .i64 40)], none, 0, 0⟩, ⟨.l 11, .p (.mv), [.t 13], none, 0, 0⟩])))
 (.cond (.l 11) (.seq (.reg [⟨.t 14, .p (.mv), [.l 1], none, 0, 0⟩, ⟨.t 15, .p (.nilc), [.t 14], none, 0, 0⟩, ⟨.t 16, .p (.fa 5), [.t 15], none, 0, 0⟩, ⟨.t 17, .r (.load false 1), [.t 16], none, 0, 0⟩, ⟨.t 18, .p (.bin .neq), [.t 17, .c (.int .i64 1)], none, 0, 0⟩, ⟨.t 19, .call 247, [.t 18, .c (.int .i64 184)], none, 0, 0⟩, ⟨.l 6, .p (.mv), [.t 19], none, 0, 0⟩])
 .ret)
 (.seq (.seq (.reg [⟨.t 21, .p (.bin .eql), [.l 10, .c (.int .i64 38)], none, 0, 0⟩, ⟨.l 20, .p (.mv), [.t 21], none, 0, 0⟩])
 (.cond (.l 20) .skip
 (.reg [⟨.t 22, .p (.bin .eql), [.l 10, .c (.int .i64 39)], none, 0, 0⟩, ⟨.l 20, .p (.mv), [.t 22], none, 0, 0⟩])))
 (.cond (.l 20) (.seq (.reg [⟨.t 23, .p (.mv), [.l 1], none, 0, 0⟩, ⟨.t 24, .p (.nilc), [.t 23], none, 0, 0⟩, ⟨.t 25, .p (.fa 5), [.t 24], none, 0, 0⟩, ⟨.t 26, .r (.load false 1), [.t 25], none, 0, 0⟩, ⟨.t 27, .p (.bin .neq), [.t 26, .c (.int .i64 2)], none, 0, 0⟩, ⟨.t 28, .call 247, [.t 27, .c (.int .i64 184)], none, 0, 0⟩, ⟨.l 6, .p (.mv), [.t 28], none, 0, 0⟩])
 .ret)
 (.seq (.seq (.reg [⟨.t 30, .p (.bin .eql), [.l 10, .c (.int .i64 1)], none, 0, 0⟩, ⟨.l 29, .p (.mv), [.t 30], none, 0, 0⟩])
 (.cond (.l 29) .skip
 (.seq (.reg [⟨.t 31, .p (.bin .eql), [.l 10, .c (.int .i64 5)], none, 0, 0⟩, ⟨.l 29, .p (.mv), [.t 31], none, 0, 0⟩])
 (.cond (.l 29) .skip
 (.seq (.reg [⟨.t 32, .p (.bin .eql), [.l 10, .c (.int .i64 6)], none, 0, 0⟩, ⟨.l 29, .p (.mv), [.t 32], none, 0, 0⟩])
 (.cond (.l 29) .skip
 (.seq (.reg [⟨.t 33, .p (.bin .eql), [.l 10, .c (.int .i64 7)], none, 0, 0⟩, ⟨.l 29, .p (.mv), [.t 33], none, 0, 0⟩])
 (.cond (.l 29) .skip
 (.seq (.reg [⟨.t 34, .p (.bin .eql), [.l 10, .c (.int .i64 8)], none, 0, 0⟩, ⟨.l 29, .p (.mv), [.t 34], none, 0, 0⟩])
 (.cond (.l 29) .skip
 (.seq (.reg [⟨.t 35, .p (.bin .eql), [.l 10, .c (.int .i64 9)], none, 0, 0⟩, ⟨.l 29, .p (.mv), [.t 35], none, 0, 0⟩])
 (.cond (.l 29) .skip
 (.seq (.reg [⟨.t 36, .p (.bin .eql), [.l 10, .c (.int .i64 10)], none, 0, 0⟩, ⟨.l 29, .p (.mv), [.t 36], none, 0, 0⟩])
 (.cond (.l 29) .skip
 (.seq (.reg [⟨.t 37, .p (.bin .eql), [.l 10, .c (.int .i64 11)], none, 0, 0⟩, ⟨.l 29, .p (.mv), [.t 37], none, 0, 0⟩])
 (.cond (.l 29) .skip
 (.seq (.reg [⟨.t 38, .p (.bin .eql), [.l 10, .c (.int .i64 12)], none, 0, 0⟩, ⟨.l 29, .p (.mv), [.t 38], none, 0, 0⟩])
 (.cond (.l 29) .skip
 (.reg [⟨.t 39, .p (.bin .eql), [.l 10, .c (.int .i64 13)], none, 0, 0⟩, ⟨.l 29, .p (.mv), [.t 39], none, 0, 0⟩])))))))))))))))))))
 (.cond (.l 29) (.seq (.reg [⟨.l 6, .p (.mv), [.c (.int .i64 0)], none, 0, 0⟩])
 .ret)
 (.seq (.seq (.reg [⟨.t 41, .p (.bin .eql), [.l 10, .c (.int .i64 30)], none, 0, 0⟩, ⟨.l 40, .p (.mv), [.t 41], none, 0, 0⟩])
 (.cond (.l 40) .skip
 (.seq (.reg [⟨.t 42, .p (.bin .eql), [.l 10, .c (.int .i64 31)], none, 0, 0⟩, ⟨.l 40, .p (.mv), [.t 42], none, 0, 0⟩])
 (.cond (.l 40) .skip
 (.seq (.reg [⟨.t 43, .p (.bin .eql), [.l 10, .c (.int .i64 32)], none, 0, 0⟩, ⟨.l 40, .p (.mv), [.t 43], none, 0, 0⟩])
 (.cond (.l 40) .skip
 (.seq (.reg [⟨.t 44, .p (.bin .eql), [.l 10, .c (.int .i64 33)], none, 0, 0⟩, ⟨.l 40, .p (.mv), [.t 44], none, 0, 0⟩])
 (.cond (.l 40) .skip
 (.reg [⟨.t 45, .p (.bin .eql), [.l 10, .c (.int .i64 34)], none, 0, 0⟩, ⟨.l 40, .p (.mv), [.t 45], none, 0, 0⟩])))))))))
 (.cond (.l 40) (.seq (.reg [⟨.l 6, .p (.mv), [.c (.int .i64 0)], none, 0, 0⟩])
 .ret)
 .skip))))))))))
 (.seq (.reg [⟨.t 46, .p (.mv), [.l 1], none, 0, 0⟩, ⟨.t 47, .p (.nilc), [.t 46], none, 0, 0⟩, ⟨.t 48, .p (.fa 5), [.t 47], none, 0, 0⟩, ⟨.t 49, .r (.load false 1), [.t 48], none, 0, 0⟩, ⟨.t 50, .p (.bin .neq), [.t 49, .c (.int .i64 0)], none, 0, 0⟩, ⟨.t 51, .call 247, [.t 50, .c (.int .i64 184)], none, 0, 0⟩, ⟨.l 6, .p (.mv), [.t 51], none, 0, 0⟩])
 .ret))),
 [.tmp (.l 6)]⟩
theorem cf245_ok : compF TP Tryz.f245 = some cf245 := by kernel_rfl
def cf246 : CF := ⟨3, (.seq (.reg [⟨.l 6, .p (.mv), [.c (.int .i64 0)], none, 0, 0⟩])
 (.seq (.reg [⟨.t 7, .p (.mv), [.l 1], none, 0, 0⟩, ⟨.t 8, .p (.nilc), [.t 7], none, 0, 0⟩, ⟨.t 9, .p (.fa 4), [.t 8], none, 0, 0⟩, ⟨.t 10, .r (.load false 1), [.t 9], none, 0, 0⟩, ⟨.t 11, .p (.un .not), [.t 10], none, 0, 0⟩, ⟨.t 12, .p (.mv), [.t 11], none, 0, 0⟩, ⟨.t 13, .p (.mv), [.l 2], (some (.t 12, true)), 0, 0⟩, ⟨.t 14, .p (.nilc), [.t 13], (some (.t 12, true)), 0, 0⟩, ⟨.t 15, .p (.fa 0), [.t 14], (some (.t 12, true)), 0, 0⟩, ⟨.t 16, .r (.load false 1), [.t 15], (some (.t 12, true)), 0, 0⟩, ⟨.t 17, .p (.bin .geq), [.t 16, .c (.int .i64 31)], (some (.t 12, true)), 0, 0⟩, ⟨.t 18, .p (.pick), [.t 12, .t 17, .c (.bool false)], none, 0, 0⟩, ⟨.t 19, .p (.mv), [.t 18], none, 0, 0⟩, ⟨.t 20, .p (.mv), [.l 2], (some (.t 19, true)), 0, 0⟩, ⟨.t 21, .p (.nilc), [.t 20], (some (.t 19, true)), 0, 0⟩, ⟨.t 22, .p (.fa 0), [.t 21], (some (.t 19, true)), 0, 0⟩, ⟨.t 23, .r (.load false 1), [.t 22], (some (.t 19, true)), 0, 0⟩, ⟨.t 24, .p (.bin .leq), [.t 23, .c (.int .i64 34)], (some (.t 19, true)), 0, 0⟩, ⟨.t 25, .p (.pick), [.t 19, .t 24, .c (.bool false)], none, 0, 0⟩, ⟨.t 26, .call 247, [.t 25, .c (.int .i64 183)], none, 0, 0⟩, ⟨.l 6, .p (.mv), [.t 26], none, 0, 0⟩])
 .ret)),
 [.tmp (.l 6)]⟩
theorem cf246_ok : compF TP Tryz.f246 = some cf246 := by kernel_rfl
def cf247 : CF := ⟨2, (.seq (.reg [⟨.l 4, .p (.mv), [.c (.int .i64 0)], none, 0, 0⟩])
 (.seq (.seq (.reg [⟨.l 5, .p (.mv), [.l 0], none, 0, 0⟩])
 (.cond (.l 5) (.seq (.reg [⟨.t 6, .p (.mv), [.l 1], none, 0, 0⟩, ⟨.l 4, .p (.mv), [.t 6], none, 0, 0⟩])
 .ret)
 .skip))
 (.seq (.reg [⟨.l 4, .p (.mv), [.c (.int .i64 0)], none, 0, 0⟩])
 .ret))),
 [.tmp (.l 4)]⟩
theorem cf247_ok : compF TP Tryz.f247 = some cf247 := by kernel_rfl
def cf248 : CF := ⟨3, (.seq (.reg [⟨.l 6, .p (.mv), [.c (.int .i64 0)], none, 0, 0⟩])
 (.seq (.reg [⟨.t 8, .p (.mv), [.l 1], none, 0, 0⟩, ⟨.t 9, .p (.nilc), [.t 8], none, 0, 0⟩, ⟨.t 10, .p (.fa 0), [.t 9], none, 0, 0⟩, ⟨.t 11, .r (.load false 1), [.t 10], none, 0, 0⟩, ⟨.t 12, .p (.bin .geq), [.t 11, .c (.int .i64 0)], none, 0, 0⟩, ⟨.l 7, .p (.mv), [.t 12], none, 0, 0⟩])
 (.seq (.reg [⟨.t 13, .p (.mv), [.l 7], none, 0, 0⟩, ⟨.t 14, .p (.mv), [.t 13], none, 0, 0⟩, ⟨.t 15, .p (.mv), [.l 2], (some (.t 14, true)), 0, 0⟩, ⟨.t 16, .p (.nilc), [.t 15], (some (.t 14, true)), 0, 0⟩, ⟨.t 17, .p (.fa 0), [.t 16], (some (.t 14, true)), 0, 0⟩, ⟨.t 18, .r (.load false 1), [.t 17], (some (.t 14, true)), 0, 0⟩, ⟨.t 19, .p (.bin .eql), [.t 18, .c (.int .i64 24)], (some (.t 14, true)), 0, 0⟩, ⟨.t 20, .p (.mv), [.t 19], (some (.t 14, true)), 0, 0⟩, ⟨.t 21, .p (.mv), [.l 2], (some (.t 20, false)), 0, 0⟩, ⟨.t 22, .p (.nilc), [.t 21], (some (.t 20, false)), 0, 0⟩, ⟨.t 23, .p (.fa 0), [.t 22], (some (.t 20, false)), 0, 0⟩, ⟨.t 24, .r (.load false 1), [.t 23], (some (.t 20, false)), 0, 0⟩, ⟨.t 25, .call 249, [.t 24], (some (.t 20, false)), 0, 0⟩, ⟨.t 26, .p (.pick), [.t 20, .c (.bool true), .t 25], (some (.t 14, true)), 0, 0⟩, ⟨.t 27, .p (.pick), [.t 14, .t 26, .c (.bool false)], none, 0, 0⟩, ⟨.t 28, .p (.mv), [.t 27], none, 0, 0⟩, ⟨.t 29, .p (.mv), [.l 7], (some (.t 28, false)), 0, 0⟩, ⟨.t 30, .p (.un .not), [.t 29], (some (.t 28, false)), 0, 0⟩, ⟨.t 31, .p (.mv), [.t 30], (some (.t 28, false)), 0, 0⟩, ⟨.t 32, .p (.mv), [.l 2], (some (.t 31, true)), 0, 0⟩, ⟨.t 33, .p (.nilc), [.t 32], (some (.t 31, true)), 0, 0⟩, ⟨.t 34, .p (.fa 0), [.t 33], (some (.t 31, true)), 0, 0⟩, ⟨.t 35, .r (.load false 1), [.t 34], (some (.t 31, true)), 0, 0⟩, ⟨.t 36, .p (.bin .eql), [.t 35, .c (.int .i64 25)], (some (.t 31, true)), 0, 0⟩, ⟨.t 37, .p (.pick), [.t 31, .t 36, .c (.bool false)], (some (.t 28, false)), 0, 0⟩, ⟨.t 38, .p (.pick), [.t 28, .c (.bool true), .t 37], none, 0, 0⟩, ⟨.t 39, .call 247, [.t 38, .c (.int .i64 181)], none, 0, 0⟩, ⟨.l 6, .p (.mv), [.t 39], none, 0, 0⟩])
 .ret))),
 [.tmp (.l 6)]⟩
theorem cf248_ok : compF TP Tryz.f248 = some cf248 := by kernel_rfl
def cf249 : CF := ⟨1, (.seq (.reg [⟨.l 2, .p (.mv), [.c (.bool false)], none, 0, 0⟩])
 (.seq (.seq (.reg [⟨.l 3, .p (.mv), [.l 0], none, 0, 0⟩])
 (.block 0 (.seq (.seq (.reg [⟨.t 5, .p (.bin .eql), [.l 3, .c (.int .i64 26)], none, 0, 0⟩, ⟨.l 4, .p (.mv), [.t 5], none, 0, 0⟩])
 (.cond (.l 4) .skip
 (.seq (.reg [⟨.t 6, .p (.bin .eql), [.l 3, .c (.int .i64 17)], none, 0, 0⟩, ⟨.l 4, .p (.mv), [.t 6], none, 0, 0⟩])
 (.cond (.l 4) .skip
 (.seq (.reg [⟨.t 7, .p (.bin .eql), [.l 3, .c (.int .i64 19)], none, 0, 0⟩, ⟨.l 4, .p (.mv), [.t 7], none, 0, 0⟩])
 (.cond (.l 4) .skip
 (.seq (.reg [⟨.t 8, .p (.bin .eql), [.l 3, .c (.int .i64 21)], none, 0, 0⟩, ⟨.l 4, .p (.mv), [.t 8], none, 0, 0⟩])
 (.cond (.l 4) .skip
 (.reg [⟨.t 9, .p (.bin .eql), [.l 3, .c (.int .i64 23)], none, 0, 0⟩, ⟨.l 4, .p (.mv), [.t 9], none, 0, 0⟩])))))))))
 (.cond (.l 4) (.seq (.reg [⟨.l 2, .p (.mv), [.c (.bool true)], none, 0, 0⟩])
 .ret)
 .skip))))
 (.seq (.reg [⟨.l 2, .p (.mv), [.c (.bool false)], none, 0, 0⟩])
 .ret))),
 [.tmp (.l 2)]⟩
theorem cf249_ok : compF TP Tryz.f249 = some cf249 := by kernel_rfl
def cf250 : CF := ⟨3, (.seq (.reg [⟨.l 6, .p (.mv), [.c (.int .i64 0)], none, 0, 0⟩])
 (.seq (.reg [⟨.t 8, .p (.mv), [.l 1], none, 0, 0⟩, ⟨.t 9, .p (.nilc), [.t 8], none, 0, 0⟩, ⟨.t 10, .p (.fa 3), [.t 9], none, 0, 0⟩, ⟨.t 11, .r (.load false 1), [.t 10], none, 0, 0⟩, ⟨.t 12, .p (.leng .sl), [.t 11], none, 0, 0⟩, ⟨.l 7, .p (.mv), [.t 12], none, 0, 0⟩])
 (.seq (.seq (.reg [⟨.t 13, .p (.mv), [.l 7], none, 0, 0⟩, ⟨.l 14, .p (.bin .eql), [.t 13, .c (.int .i64 0)], none, 0, 0⟩])
 (.cond (.l 14) (.seq (.reg [⟨.t 15, .p (.mv), [.l 2], none, 0, 0⟩, ⟨.t 16, .p (.nilc), [.t 15], none, 0, 0⟩, ⟨.t 17, .p (.fa 0), [.t 16], none, 0, 0⟩, ⟨.t 18, .r (.load false 1), [.t 17], none, 0, 0⟩, ⟨.t 19, .p (.bin .eql), [.t 18, .c (.int .i64 29)], none, 0, 0⟩, ⟨.t 20, .call 247, [.t 19, .c (.int .i64 182)], none, 0, 0⟩, ⟨.l 6, .p (.mv), [.t 20], none, 0, 0⟩])
 .ret)
 .skip))
 (.seq (.regD [⟨.t 21, .p (.mv), [.l 2], none, 0, 0⟩, ⟨.t 22, .p (.nilc), [.t 21], none, 0, 0⟩, ⟨.t 23, .p (.fa 0), [.t 22], none, 0, 0⟩, ⟨.t 24, .r (.load false 1), [.t 23], none, 0, 0⟩, ⟨.t 25, .call 249, [.t 24], none, 0, 1⟩, ⟨.t 26, .p (.mv), [.t 25], none, 1, 1⟩, ⟨.t 27, .p (.mv), [.l 2], (some (.t 26, false)), 1, 1⟩, ⟨.t 28, .p (.nilc), [.t 27], (some (.t 26, false)), 1, 1⟩, ⟨.t 29, .p (.fa 0), [.t 28], (some (.t 26, false)), 1, 1⟩, ⟨.t 30, .r (.load false 1), [.t 29], (some (.t 26, false)), 1, 1⟩, ⟨.t 31, .call 251, [.t 30], (some (.t 26, false)), 1, 2⟩, ⟨.t 32, .p (.mv), [.t 31], (some (.t 26, false)), 2, 2⟩, ⟨.t 33, .p (.mv), [.l 1], (some (.t 32, true)), 2, 2⟩, ⟨.t 34, .p (.nilc), [.t 33], (some (.t 32, true)), 2, 2⟩, ⟨.t 35, .p (.fa 3), [.t 34], (some (.t 32, true)), 2, 2⟩, ⟨.t 36, .r (.load false 1), [.t 35], (some (.t 32, true)), 2, 2⟩, ⟨.t 37, .p (.mv), [.l 7], (some (.t 32, true)), 2, 2⟩, ⟨.t 38, .p (.bin .sub), [.t 37, .c (.int .i64 1)], (some (.t 32, true)), 2, 2⟩, ⟨.t 39, .p (.ixsl 1), [.t 36, .t 38], (some (.t 32, true)), 2, 2⟩, ⟨.t 40, .r (.load false 1), [.t 39], (some (.t 32, true)), 2, 2⟩, ⟨.t 41, .p (.mv), [.l 0], (some (.t 32, true)), 2, 2⟩, ⟨.t 42, .p (.nilc), [.t 41], (some (.t 32, true)), 2, 2⟩, ⟨.t 43, .p (.fa 2), [.t 42], (some (.t 32, true)), 2, 2⟩, ⟨.t 44, .r (.load false 1), [.t 43], (some (.t 32, true)), 2, 2⟩, ⟨.t 45, .p (.bin .leq), [.t 40, .t 44], (some (.t 32, true)), 2, 2⟩, ⟨.t 46, .p (.pick), [.t 32, .t 45, .c (.bool false)], (some (.t 26, false)), 2, 2⟩, ⟨.t 47, .p (.pick), [.t 26, .c (.bool true), .t 46], none, 2, 2⟩, ⟨.t 48, .call 247, [.t 47, .c (.int .i64 182)], none, 2, 3⟩, ⟨.l 6, .p (.mv), [.t 48], none, 3, 3⟩])
 .ret)))),
 [.tmp (.l 6)]⟩
theorem cf250_ok : compF TP Tryz.f250 = some cf250 := by kernel_rfl
def cf252 : CF := ⟨3, (.seq (.reg [⟨.l 6, .p (.mv), [.c .nilp], none, 0, 0⟩, ⟨.l 7, .p (.mv), [.c .nilp], none, 0, 0⟩])
 (.seq (.reg [⟨.t 13, .p (.mv), [.l 0], none, 0, 0⟩, ⟨.t 14, .p (.mv), [.l 1], none, 0, 0⟩, ⟨.t 15, .p (.mv), [.l 2], none, 0, 0⟩, ⟨.t 16, .call 321, [.t 13, .t 14, .t 15], none, 0, 0⟩, ⟨.l 8, .p (.mv), [.t 16], none, 0, 0⟩])
 (.seq (.seq (.regD [⟨.t 17, .p (.mv), [.l 2], none, 0, 0⟩, ⟨.t 18, .p (.nilc), [.t 17], none, 0, 0⟩, ⟨.t 19, .p (.fa 0), [.t 18], none, 0, 0⟩, ⟨.t 20, .r (.load false 1), [.t 19], none, 0, 0⟩, ⟨.t 21, .call 322, [.t 20], none, 0, 1⟩, ⟨.t 22, .p (.mv), [.t 21], none, 1, 1⟩, ⟨.t 23, .p (.mv), [.l 1], (some (.t 22, true)), 1, 1⟩, ⟨.t 24, .p (.nilc), [.t 23], (some (.t 22, true)), 1, 1⟩, ⟨.t 25, .p (.fa 1), [.t 24], (some (.t 22, true)), 1, 1⟩, ⟨.t 26, .r (.load false 1), [.t 25], (some (.t 22, true)), 1, 1⟩, ⟨.t 27, .p (.leng .sl), [.t 26], (some (.t 22, true)), 1, 1⟩, ⟨.t 28, .p (.mv), [.l 2], (some (.t 22, true)), 1, 1⟩, ⟨.t 29, .p (.nilc), [.t 28], (some (.t 22, true)), 1, 1⟩, ⟨.t 30, .p (.fa 6), [.t 29], (some (.t 22, true)), 1, 1⟩, ⟨.t 31, .r (.load false 1), [.t 30], (some (.t 22, true)), 1, 1⟩, ⟨.t 32, .p (.bin .gtr), [.t 27, .t 31], (some (.t 22, true)), 1, 1⟩, ⟨.l 33, .p (.pick), [.t 22, .t 32, .c (.bool false)], none, 1, 1⟩])
 (.cond (.l 33) (.seq (.reg [⟨.t 34, .p (.mv), [.l 1], none, 0, 0⟩, ⟨.t 35, .p (.nilc), [.t 34], none, 0, 0⟩, ⟨.t 36, .r (.load true 7), [.t 35], none, 0, 0⟩, ⟨.l 9, .a (.alloc [(.int .i64 0), .nils, .nils, .nils, (.bool false), (.int .i64 0), (.int .i64 0)]), [], none, 0, 0⟩, ⟨.no, .e (.store 7), [.l 9, .t 36], none, 0, 0⟩])
 (.seq (.regD [⟨.t 37, .p (.mv), [.l 1], none, 0, 0⟩, ⟨.t 38, .p (.nilc), [.t 37], none, 0, 0⟩, ⟨.t 39, .p (.fa 1), [.t 38], none, 0, 0⟩, ⟨.t 40, .r (.load false 1), [.t 39], none, 0, 0⟩, ⟨.t 41, .p (.mv), [.l 2], none, 0, 0⟩, ⟨.t 42, .p (.nilc), [.t 41], none, 0, 0⟩, ⟨.t 43, .p (.fa 6), [.t 42], none, 0, 0⟩, ⟨.t 44, .r (.load false 1), [.t 43], none, 0, 0⟩, ⟨.t 45, .p (.slc (.sl 1) false true false), [.t 40, .t 44], none, 0, 0⟩, ⟨.t 46, .call 317, [.t 45], none, 0, 1⟩, ⟨.t 47, .p (.fa 1), [.l 9], none, 1, 1⟩, ⟨.no, .e (.store 1), [.t 47, .t 46], none, 1, 2⟩])
 (.reg [⟨.l 1, .p (.mv), [.l 9], none, 0, 0⟩])))
 .skip))
 (.seq (.reg [⟨.t 48, .p (.mv), [.l 1], none, 0, 0⟩, ⟨.t 49, .p (.mv), [.l 1], none, 0, 0⟩, ⟨.l 6, .p (.mv), [.t 48], none, 0, 0⟩, ⟨.l 7, .p (.mv), [.t 49], none, 0, 0⟩])
 (.seq (.seq (.reg [⟨.t 50, .p (.mv), [.l 2], none, 0, 0⟩, ⟨.t 51, .p (.nilc), [.t 50], none, 0, 0⟩, ⟨.t 52, .p (.fa 1), [.t 51], none, 0, 0⟩, ⟨.t 53, .p (.fa 0), [.t 52], none, 0, 0⟩, ⟨.t 54, .r (.load false 1), [.t 53], none, 0, 0⟩, ⟨.l 55, .p (.bin .neq), [.t 54, .c (.int .i64 0)], none, 0, 0⟩])
 (.cond (.l 55) (.reg [⟨.t 56, .p (.mv), [.l 1], none, 0, 0⟩, ⟨.t 57, .p (.mv), [.l 2], none, 0, 0⟩, ⟨.t 58, .p (.nilc), [.t 57], none, 0, 0⟩, ⟨.t 59, .p (.fa 1), [.t 58], none, 0, 0⟩, ⟨.t 60, .r (.load true 2), [.t 59], none, 0, 0⟩, ⟨.t 61, .p (.mv), [.l 8], none, 0, 0⟩, ⟨.t 62, .call 323, [.t 56, .t 60, .t 61], none, 0, 0⟩, ⟨.l 6, .p (.mv), [.t 62], none, 0, 0⟩])
 .skip))
 (.seq (.reg [⟨.t 63, .p (.mv), [.l 6], none, 0, 0⟩, ⟨.t 64, .p (.nilc), [.t 63], none, 0, 0⟩, ⟨.t 65, .r (.load true 7), [.t 64], none, 0, 0⟩, ⟨.l 10, .a (.alloc [(.int .i64 0), .nils, .nils, .nils, (.bool false), (.int .i64 0), (.int .i64 0)]), [], none, 0, 0⟩, ⟨.no, .e (.store 7), [.l 10, .t 65], none, 0, 0⟩])
 (.seq (.seq (.reg [⟨.t 66, .p (.mv), [.l 2], none, 0, 0⟩, ⟨.t 67, .p (.nilc), [.t 66], none, 0, 0⟩, ⟨.t 68, .p (.fa 0), [.t 67], none, 0, 0⟩, ⟨.l 69, .r (.load false 1), [.t 68], none, 0, 0⟩])
 (.block 0 (.seq (.reg [⟨.t 73, .p (.bin .eql), [.l 69, .c (.int .i64 9)], none, 0, 0⟩, ⟨.l 72, .p (.mv), [.t 73], none, 0, 0⟩])
 (.cond (.l 72) (.seq (.regD [⟨.t 74, .p (.mv), [.l 1], none, 0, 0⟩, ⟨.t 75, .p (.mv), [.l 2], none, 0, 0⟩, ⟨.t 76, .p (.nilc), [.t 75], none, 0, 0⟩, ⟨.t 77, .p (.fa 3), [.t 76], none, 0, 0⟩, ⟨.t 78, .r (.load false 1), [.t 77], none, 0, 0⟩, ⟨.t 79, .p (.ixsl 2), [.t 78, .c (.int .i64 0)], none, 0, 0⟩, ⟨.t 80, .r (.load true 2), [.t 79], none, 0, 0⟩, ⟨.t 81, .p (.mv), [.l 2], none, 0, 0⟩, ⟨.t 82, .p (.nilc), [.t 81], none, 0, 0⟩, ⟨.t 83, .p (.fa 5), [.t 82], none, 0, 0⟩, ⟨.t 84, .r (.load false 1), [.t 83], none, 0, 0⟩, ⟨.t 85, .p (.bin .add), [.c (.int .i64 3), .t 84], none, 0, 0⟩, ⟨.t 87, .p (.mv), [.l 7], none, 0, 1⟩, ⟨.t 86, .call 323, [.t 74, .t 80, .t 85], none, 0, 1⟩, ⟨.l 6, .p (.mv), [.t 86], none, 1, 1⟩, ⟨.l 7, .p (.mv), [.t 87], none, 1, 1⟩])
 .ret)
 (.seq (.reg [⟨.t 89, .p (.bin .eql), [.l 69, .c (.int .i64 10)], none, 0, 0⟩, ⟨.l 88, .p (.mv), [.t 89], none, 0, 0⟩])
 (.cond (.l 88) (.seq (.reg [⟨.t 90, .p (.mv), [.l 1], none, 0, 0⟩, ⟨.t 91, .p (.mv), [.l 2], none, 0, 0⟩, ⟨.t 92, .p (.nilc), [.t 91], none, 0, 0⟩, ⟨.t 93, .p (.fa 3), [.t 92], none, 0, 0⟩, ⟨.t 94, .r (.load false 1), [.t 93], none, 0, 0⟩, ⟨.t 95, .p (.ixsl 2), [.t 94, .c (.int .i64 0)], none, 0, 0⟩, ⟨.t 96, .r (.load true 2), [.t 95], none, 0, 0⟩, ⟨.t 97, .call 323, [.t 90, .t 96, .c (.int .i64 2)], none, 0, 0⟩, ⟨.t 98, .p (.mv), [.l 7], none, 0, 0⟩, ⟨.l 6, .p (.mv), [.t 97], none, 0, 0⟩, ⟨.l 7, .p (.mv), [.t 98], none, 0, 0⟩])
 .ret)
 (.seq (.seq (.reg [⟨.t 100, .p (.bin .eql), [.l 69, .c (.int .i64 15)], none, 0, 0⟩, ⟨.l 99, .p (.mv), [.t 100], none, 0, 0⟩])
 (.cond (.l 99) .skip
 (.seq (.reg [⟨.t 101, .p (.bin .eql), [.l 69, .c (.int .i64 16)], none, 0, 0⟩, ⟨.l 99, .p (.mv), [.t 101], none, 0, 0⟩])
 (.cond (.l 99) .skip
 (.seq (.reg [⟨.t 102, .p (.bin .eql), [.l 69, .c (.int .i64 18)], none, 0, 0⟩, ⟨.l 99, .p (.mv), [.t 102], none, 0, 0⟩])
 (.cond (.l 99) .skip
 (.seq (.reg [⟨.t 103, .p (.bin .eql), [.l 69, .c (.int .i64 20)], none, 0, 0⟩, ⟨.l 99, .p (.mv), [.t 103], none, 0, 0⟩])
 (.cond (.l 99) .skip
 (.reg [⟨.t 104, .p (.bin .eql), [.l 69, .c (.int .i64 22)], none, 0, 0⟩, ⟨.l 99, .p (.mv), [.t 104], none, 0, 0⟩])))))))))
 (.cond (.l 99) (.seq (.reg [⟨.t 105, .p (.mv), [.l 1], none, 0, 0⟩, ⟨.t 106, .call 324, [.t 105], none, 0, 0⟩, ⟨.t 107, .p (.mv), [.l 7], none, 0, 0⟩, ⟨.l 6, .p (.mv), [.t 106], none, 0, 0⟩, ⟨.l 7, .p (.mv), [.t 107], none, 0, 0⟩])
 .ret)
 (.seq (.reg [⟨.t 109, .p (.bin .eql), [.l 69, .c (.int .i64 37)], none, 0, 0⟩, ⟨.l 108, .p (.mv), [.t 109], none, 0, 0⟩])
 (.cond (.l 108) (.seq (.reg [⟨.t 110, .p (.mv), [.l 1], none, 0, 0⟩, ⟨.t 111, .call 324, [.t 110], none, 0, 0⟩, ⟨.l 6, .p (.mv), [.t 111], none, 0, 0⟩])
 (.seq (.reg [⟨.t 112, .p (.mv), [.l 6], none, 0, 0⟩, ⟨.t 113, .p (.mv), [.l 6], none, 0, 0⟩, ⟨.t 114, .p (.mv), [.l 1], none, 0, 0⟩, ⟨.t 115, .p (.nilc), [.t 114], none, 0, 0⟩, ⟨.t 116, .p (.fa 2), [.t 115], none, 0, 0⟩, ⟨.t 117, .r (.load false 1), [.t 116], none, 0, 0⟩, ⟨.t 118, .p (.leng .sl), [.t 117], none, 0, 0⟩, ⟨.t 119, .call 242, [.t 118], none, 0, 0⟩, ⟨.t 120, .p (.nilc), [.t 112], none, 0, 0⟩, ⟨.t 121, .p (.fa 2), [.t 120], none, 0, 0⟩, ⟨.no, .e (.store 1), [.t 121, .t 119], none, 0, 0⟩, ⟨.t 122, .p (.nilc), [.t 113], none, 0, 0⟩, ⟨.t 123, .p (.fa 5), [.t 122], none, 0, 0⟩, ⟨.no, .e (.store 1), [.t 123, .c (.int .i64 2)], none, 0, 0⟩])
 (.seq (.reg [⟨.t 124, .p (.mv), [.l 6], none, 0, 0⟩, ⟨.t 125, .p (.nilc), [.t 124], none, 0, 0⟩, ⟨.t 126, .r (.load true 7), [.t 125], none, 0, 0⟩, ⟨.l 11, .a (.alloc [(.int .i64 0), .nils, .nils, .nils, (.bool false), (.int .i64 0), (.int .i64 0)]), [], none, 0, 0⟩, ⟨.no, .e (.store 7), [.l 11, .t 126], none, 0, 0⟩])
 (.seq (.reg [⟨.t 127, .p (.fa 1), [.l 11], none, 0, 0⟩, ⟨.no, .e (.store 1), [.t 127, .c .nils], none, 0, 0⟩, ⟨.t 128, .p (.fa 5), [.l 11], none, 0, 0⟩, ⟨.no, .e (.store 1), [.t 128, .c (.int .i64 1)], none, 0, 0⟩])
 (.seq (.reg [⟨.t 129, .p (.mv), [.l 6], none, 0, 0⟩, ⟨.l 6, .p (.mv), [.t 129], none, 0, 0⟩, ⟨.l 7, .p (.mv), [.l 11], none, 0, 0⟩])
 .ret)))))
 (.seq (.reg [⟨.t 131, .p (.bin .eql), [.l 69, .c (.int .i64 24)], none, 0, 0⟩, ⟨.l 130, .p (.mv), [.t 131], none, 0, 0⟩])
 (.cond (.l 130) (.regD [⟨.t 132, .p (.mv), [.l 2], none, 0, 1⟩, ⟨.t 133, .p (.nilc), [.t 132], none, 0, 1⟩, ⟨.t 134, .p (.fa 5), [.t 133], none, 0, 1⟩, ⟨.t 135, .r (.load false 1), [.t 134], none, 0, 1⟩, ⟨.t 136, .p (.mv), [.l 2], none, 0, 0⟩, ⟨.t 137, .p (.nilc), [.t 136], none, 0, 0⟩, ⟨.t 138, .p (.fa 5), [.t 137], none, 0, 0⟩, ⟨.t 139, .r (.load false 1), [.t 138], none, 0, 0⟩, ⟨.t 140, .call 242, [.t 139], none, 0, 1⟩, ⟨.t 141, .p (.fa 0), [.l 10], none, 1, 1⟩, ⟨.no, .e (.store 1), [.t 141, .t 135], none, 1, 2⟩, ⟨.t 142, .p (.fa 2), [.l 10], none, 2, 2⟩, ⟨.no, .e (.store 1), [.t 142, .t 140], none, 2, 3⟩])
 (.seq (.reg [⟨.t 144, .p (.bin .eql), [.l 69, .c (.int .i64 25)], none, 0, 0⟩, ⟨.l 143, .p (.mv), [.t 144], none, 0, 0⟩])
 (.cond (.l 143) (.reg [⟨.t 145, .p (.fa 0), [.l 10], none, 0, 0⟩, ⟨.no, .e (.store 1), [.t 145, .c (.int .i64 (-1))], none, 0, 0⟩, ⟨.t 146, .p (.fa 2), [.l 10], none, 0, 0⟩, ⟨.no, .e (.store 1), [.t 146, .c .nils], none, 0, 0⟩])
 (.seq (.reg [⟨.t 148, .p (.bin .eql), [.l 69, .c (.int .i64 28)], none, 0, 0⟩, ⟨.l 147, .p (.mv), [.t 148], none, 0, 0⟩])
 (.cond (.l 147) (.regD [⟨.t 149, .p (.mv), [.l 1], none, 0, 0⟩, ⟨.t 150, .p (.nilc), [.t 149], none, 0, 0⟩, ⟨.t 151, .p (.fa 3), [.t 150], none, 0, 0⟩, ⟨.t 152, .r (.load false 1), [.t 151], none, 0, 0⟩, ⟨.t 154, .p (.mv), [.l 2], none, 0, 1⟩, ⟨.t 155, .p (.nilc), [.t 154], none, 0, 1⟩, ⟨.t 156, .p (.fa 4), [.t 155], none, 0, 1⟩, ⟨.t 157, .r (.load false 1), [.t 156], none, 0, 1⟩, ⟨.t 158, .a (.bslice [(.int .i64 0)] 1 1 [(0, 1)]), [.t 157], none, 0, 1⟩, ⟨.t 153, .call 325, [.t 152], none, 0, 1⟩, ⟨.t 159, .e (.append 1 8 none), [.t 153, .t 158], none, 1, 2⟩, ⟨.t 160, .p (.fa 3), [.l 10], none, 2, 2⟩, ⟨.no, .e (.store 1), [.t 160, .t 159], none, 2, 3⟩])
 (.seq (.reg [⟨.t 162, .p (.bin .eql), [.l 69, .c (.int .i64 29)], none, 0, 0⟩, ⟨.l 161, .p (.mv), [.t 162], none, 0, 0⟩])
 (.cond (.l 161) (.regD [⟨.t 163, .p (.mv), [.l 1], none, 0, 0⟩, ⟨.t 164, .p (.nilc), [.t 163], none, 0, 0⟩, ⟨.t 165, .p (.fa 3), [.t 164], none, 0, 0⟩, ⟨.t 166, .r (.load false 1), [.t 165], none, 0, 0⟩, ⟨.t 167, .p (.mv), [.l 1], none, 0, 0⟩, ⟨.t 168, .p (.nilc), [.t 167], none, 0, 0⟩, ⟨.t 169, .p (.fa 3), [.t 168], none, 0, 0⟩, ⟨.t 170, .r (.load false 1), [.t 169], none, 0, 0⟩, ⟨.t 171, .p (.leng .sl), [.t 170], none, 0, 0⟩, ⟨.t 172, .p (.bin .sub), [.t 171, .c (.int .i64 1)], none, 0, 0⟩, ⟨.t 173, .p (.slc (.sl 1) false true false), [.t 166, .t 172], none, 0, 0⟩, ⟨.t 174, .p (.fa 3), [.l 10], none, 0, 0⟩, ⟨.no, .e (.store 1), [.t 174, .t 173], none, 0, 1⟩])
 (.seq (.reg [⟨.t 176, .p (.bin .eql), [.l 69, .c (.int .i64 30)], none, 0, 0⟩, ⟨.l 175, .p (.mv), [.t 176], none, 0, 0⟩])
 (.cond (.l 175) (.reg [⟨.t 177, .p (.fa 4), [.l 10], none, 0, 0⟩, ⟨.no, .e (.store 1), [.t 177, .c (.bool true)], none, 0, 0⟩])
 (.seq (.reg [⟨.t 179, .p (.bin .eql), [.l 69, .c (.int .i64 36)], none, 0, 0⟩, ⟨.l 178, .p (.mv), [.t 179], none, 0, 0⟩])
 (.cond (.l 178) (.reg [⟨.t 180, .p (.mv), [.l 0], none, 0, 0⟩, ⟨.t 181, .p (.nilc), [.t 180], none, 0, 0⟩, ⟨.t 182, .p (.fa 2), [.t 181], none, 0, 0⟩, ⟨.t 183, .r (.load false 1), [.t 182], none, 0, 0⟩, ⟨.t 184, .p (.fa 5), [.l 10], none, 0, 0⟩, ⟨.no, .e (.store 1), [.t 184, .c (.int .i64 1)], none, 0, 0⟩, ⟨.t 185, .p (.fa 6), [.l 10], none, 0, 0⟩, ⟨.no, .e (.store 1), [.t 185, .t 183], none, 0, 0⟩])
 (.seq (.seq (.reg [⟨.t 187, .p (.bin .eql), [.l 69, .c (.int .i64 38)], none, 0, 0⟩, ⟨.l 186, .p (.mv), [.t 187], none, 0, 0⟩])
 (.cond (.l 186) .skip
 (.reg [⟨.t 188, .p (.bin .eql), [.l 69, .c (.int .i64 40)], none, 0, 0⟩, ⟨.l 186, .p (.mv), [.t 188], none, 0, 0⟩])))
 (.cond (.l 186) (.reg [⟨.t 189, .p (.fa 5), [.l 10], none, 0, 0⟩, ⟨.no, .e (.store 1), [.t 189, .c (.int .i64 0)], none, 0, 0⟩, ⟨.t 190, .p (.fa 6), [.l 10], none, 0, 0⟩, ⟨.no, .e (.store 1), [.t 190, .c (.int .i64 0)], none, 0, 0⟩])
 (.seq (.reg [⟨.t 192, .p (.bin .eql), [.l 69, .c (.int .i64 39)], none, 0, 0⟩, ⟨.l 191, .p (.mv), [.t 192], none, 0, 0⟩])
 (.cond (.l 191) (.seq (.reg [⟨.t 193, .p (.mv), [.l 1], none, 0, 0⟩, ⟨.t 194, .p (.nilc), [.t 193], none, 0, 0⟩, ⟨.t 195, .r (.load true 7), [.t 194], none, 0, 0⟩, ⟨.l 12, .a (.alloc [(.int .i64 0), .nils, .nils, .nils, (.bool false), (.int .i64 0), (.int .i64 0)]), [], none, 0, 0⟩, ⟨.no, .e (.store 7), [.l 12, .t 195], none, 0, 0⟩])
 (.seq (.reg [⟨.t 196, .p (.fa 5), [.l 12], none, 0, 0⟩, ⟨.no, .e (.store 1), [.t 196, .c (.int .i64 1)], none, 0, 0⟩])
 (.seq (.reg [⟨.t 197, .p (.mv), [.l 6], none, 0, 0⟩, ⟨.l 6, .p (.mv), [.t 197], none, 0, 0⟩, ⟨.l 7, .p (.mv), [.l 12], none, 0, 0⟩])
 .ret)))
 (.seq (.reg [⟨.t 70, .p (.mv), [.l 6], none, 0, 0⟩, ⟨.t 71, .p (.mv), [.l 7], none, 0, 0⟩, ⟨.l 6, .p (.mv), [.t 70], none, 0, 0⟩, ⟨.l 7, .p (.mv), [.t 71], none, 0, 0⟩])
 .ret)))))))))))))))))))))))))))
 (.seq (.reg [⟨.t 198, .p (.mv), [.l 7], none, 0, 0⟩, ⟨.l 6, .p (.mv), [.l 10], none, 0, 0⟩, ⟨.l 7, .p (.mv), [.t 198], none, 0, 0⟩])
 .ret)))))))),
 [.tmp (.l 6), .tmp (.l 7)]⟩
theorem cf252_ok : compF TP Tryz.f252 = some cf252 := by kernel_rfl
def cf253 : CF := ⟨2, (.seq (.reg [⟨.l 2, .a (.box), [.l 0], none, 0, 0⟩, ⟨.l 4, .p (.mv), [.c .nils], none, 0, 0⟩])
 (.seq (.seq (.reg [⟨.t 7, .p (.mv), [.l 1], none, 0, 0⟩, ⟨.t 8, .p (.bin .lss), [.t 7, .c (.int .i64 0)], none, 0, 0⟩, ⟨.t 9, .p (.mv), [.t 8], none, 0, 0⟩, ⟨.t 10, .p (.mv), [.l 1], (some (.t 9, false)), 0, 0⟩, ⟨.t 11, .r (.load false 1), [.l 2], (some (.t 9, false)), 0, 0⟩, ⟨.t 12, .p (.leng .sl), [.t 11], (some (.t 9, false)), 0, 0⟩, ⟨.t 13, .p (.bin .geq), [.t 10, .t 12], (some (.t 9, false)), 0, 0⟩, ⟨.l 14, .p (.pick), [.t 9, .c (.bool true), .t 13], none, 0, 0⟩])
 (.cond (.l 14) (.seq (.reg [⟨.l 4, .p (.mv), [.c .nils], none, 0, 0⟩])
 .ret)
 .skip))
 (.seq (.reg [⟨.l 5, .a (.alloc [.nils]), [], none, 0, 0⟩])
 (.seq (.seq (.reg [⟨.t 15, .r (.load false 1), [.l 2], none, 0, 0⟩, ⟨.t 16, .p (.mv), [.l 1], none, 0, 0⟩, ⟨.t 17, .p (.ixsl 10), [.t 15, .t 16], none, 0, 0⟩, ⟨.t 18, .p (.mv), [.l 1], none, 0, 0⟩, ⟨.l 19, .call 326, [.t 17, .t 18], none, 0, 0⟩])
 (.block 0 (.rangeF (.l 19) [.l 20] (.reg [⟨.l 6, .p (.mv), [.l 20], none, 0, 0⟩]) (.block 1 (.seq (.reg [⟨.t 21, .p (.mv), [.l 6], none, 0, 0⟩, ⟨.t 22, .p (.bin .geq), [.t 21, .c (.int .i64 0)], none, 0, 0⟩, ⟨.t 23, .p (.mv), [.t 22], none, 0, 0⟩, ⟨.t 24, .p (.mv), [.l 6], (some (.t 23, true)), 0, 0⟩, ⟨.t 25, .r (.load false 1), [.l 2], (some (.t 23, true)), 0, 0⟩, ⟨.t 26, .p (.leng .sl), [.t 25], (some (.t 23, true)), 0, 0⟩, ⟨.t 27, .p (.bin .lss), [.t 24, .t 26], (some (.t 23, true)), 0, 0⟩, ⟨.l 28, .p (.pick), [.t 23, .t 27, .c (.bool false)], none, 0, 0⟩])
 (.cond (.l 28) (.reg [⟨.t 29, .r (.load false 1), [.l 5], none, 0, 0⟩, ⟨.t 30, .p (.mv), [.l 6], none, 0, 0⟩, ⟨.t 31, .a (.bslice [(.int .i64 0)] 1 1 [(0, 1)]), [.t 30], none, 0, 0⟩, ⟨.t 32, .e (.append 1 8 none), [.t 29, .t 31], none, 0, 0⟩, ⟨.no, .e (.store 1), [.l 5, .t 32], none, 0, 0⟩])
 .skip))))))
 (.seq (.reg [⟨.t 33, .r (.load false 1), [.l 5], none, 0, 0⟩, ⟨.t 34, .call 327, [.t 33], none, 0, 0⟩])
 (.seq (.reg [⟨.t 35, .r (.load false 1), [.l 5], none, 0, 0⟩, ⟨.t 36, .call 328, [.t 35], none, 0, 0⟩, ⟨.l 4, .p (.mv), [.t 36], none, 0, 0⟩])
 .ret)))))),
 [.tmp (.l 4)]⟩
theorem cf253_ok : compF TP Tryz.f253 = some cf253 := by kernel_rfl
def cf254 : CF := ⟨2, (.seq (.reg [⟨.l 4, .p (.mv), [.c (.bool false)], none, 0, 0⟩])
 (.seq (.reg [⟨.t 5, .p (.mv), [.l 0], none, 0, 0⟩, ⟨.t 6, .p (.mv), [.l 1], none, 0, 0⟩, ⟨.t 7, .call 329, [.t 5, .t 6], none, 0, 0⟩, ⟨.t 8, .p (.bin .geq), [.t 7, .c (.int .i64 0)], none, 0, 0⟩, ⟨.l 4, .p (.mv), [.t 8], none, 0, 0⟩])
 .ret)),
 [.tmp (.l 4)]⟩
theorem cf254_ok : compF TP Tryz.f254 = some cf254 := by kernel_rfl
def cf257 : CF := ⟨1, (.seq (.reg [⟨.l 2, .p (.mv), [.c (.bool false)], none, 0, 0⟩])
 (.seq (.seq (.reg [⟨.l 3, .p (.mv), [.l 0], none, 0, 0⟩])
 (.block 0 (.seq (.seq (.reg [⟨.t 5, .p (.bin .eql), [.l 3, .c (.int .i64 8)], none, 0, 0⟩, ⟨.l 4, .p (.mv), [.t 5], none, 0, 0⟩])
 (.cond (.l 4) .skip
 (.seq (.reg [⟨.t 6, .p (.bin .eql), [.l 3, .c (.int .i64 39)], none, 0, 0⟩, ⟨.l 4, .p (.mv), [.t 6], none, 0, 0⟩])
 (.cond (.l 4) .skip
 (.seq (.reg [⟨.t 7, .p (.bin .eql), [.l 3, .c (.int .i64 12)], none, 0, 0⟩, ⟨.l 4, .p (.mv), [.t 7], none, 0, 0⟩])
 (.cond (.l 4) .skip
 (.reg [⟨.t 8, .p (.bin .eql), [.l 3, .c (.int .i64 27)], none, 0, 0⟩, ⟨.l 4, .p (.mv), [.t 8], none, 0, 0⟩])))))))
 (.cond (.l 4) (.seq (.reg [⟨.l 2, .p (.mv), [.c (.bool false)], none, 0, 0⟩])
 .ret)
 .skip))))
 (.seq (.reg [⟨.t 9, .p (.mv), [.l 0], none, 0, 0⟩, ⟨.t 10, .call 249, [.t 9], none, 0, 0⟩, ⟨.t 11, .p (.un .not), [.t 10], none, 0, 0⟩, ⟨.l 2, .p (.mv), [.t 11], none, 0, 0⟩])
 .ret))),
 [.tmp (.l 2)]⟩
theorem cf257_ok : compF TP Tryz.f257 = some cf257 := by kernel_rfl
def cf258 : CF := ⟨1, (.seq (.reg [⟨.l 2, .p (.mv), [.c (.int .u64 0)], none, 0, 0⟩, ⟨.l 3, .p (.mv), [.c (.bool false)], none, 0, 0⟩])
 (.seq (.seq (.reg [⟨.t 4, .p (.mv), [.l 0], none, 0, 0⟩, ⟨.t 5, .p (.bin .gtr), [.t 4, .c (.int .i64 576460752303423487)], none, 0, 0⟩, ⟨.t 6, .p (.mv), [.t 5], none, 0, 0⟩, ⟨.t 7, .p (.mv), [.l 0], (some (.t 6, false)), 0, 0⟩, ⟨.t 8, .p (.bin .lss), [.t 7, .c (.int .i64 (-576460752303423488))], (some (.t 6, false)), 0, 0⟩, ⟨.l 9, .p (.pick), [.t 6, .c (.bool true), .t 8], none, 0, 0⟩])
 (.cond (.l 9) (.seq (.reg [⟨.l 2, .p (.mv), [.c (.int .u64 0)], none, 0, 0⟩, ⟨.l 3, .p (.mv), [.c (.bool false)], none, 0, 0⟩])
 .ret)
 .skip))
 (.seq (.reg [⟨.t 10, .p (.mv), [.l 0], none, 0, 0⟩, ⟨.t 11, .p (.toInt .u64), [.t 10], none, 0, 0⟩, ⟨.t 12, .p (.bin .shl), [.t 11, .c (.int .u64 4)], none, 0, 0⟩, ⟨.t 13, .p (.bin .or), [.t 12, .c (.int .u64 3)], none, 0, 0⟩, ⟨.l 2, .p (.mv), [.t 13], none, 0, 0⟩, ⟨.l 3, .p (.mv), [.c (.bool true)], none, 0, 0⟩])
 .ret))),
 [.tmp (.l 2), .tmp (.l 3)]⟩
theorem cf258_ok : compF TP Tryz.f258 = some cf258 := by kernel_rfl
def cf259 : CF := ⟨2, (.seq (.reg [⟨.l 4, .p (.mv), [.c (.int .u64 0)], none, 0, 0⟩])
 (.seq (.seq (.reg [⟨.t 8, .p (.mv), [.l 1], none, 0, 0⟩, ⟨.t 9, .call 258, [.t 8], none, 0, 0⟩, ⟨.t 7, .p (.mv), [.t 9], none, 0, 0⟩, ⟨.t 10, .p (.ext 0), [.t 7], none, 0, 0⟩, ⟨.t 11, .p (.ext 1), [.t 7], none, 0, 0⟩, ⟨.l 5, .p (.mv), [.t 10], none, 0, 0⟩, ⟨.l 6, .p (.mv), [.t 11], none, 0, 0⟩])
 (.seq (.reg [⟨.l 12, .p (.mv), [.l 6], none, 0, 0⟩])
 (.cond (.l 12) (.seq (.reg [⟨.t 13, .p (.mv), [.l 5], none, 0, 0⟩, ⟨.l 4, .p (.mv), [.t 13], none, 0, 0⟩])
 .ret)
 .skip)))
 (.seq (.reg [⟨.t 14, .p (.mv), [.l 0], none, 0, 0⟩, ⟨.t 15, .p (.mv), [.l 1], none, 0, 0⟩, ⟨.t 16, .p (.toInt .u64), [.t 15], none, 0, 0⟩, ⟨.t 17, .a (.bslice [(.int .u64 0)] 1 1 [(0, 1)]), [.t 16], none, 0, 0⟩, ⟨.t 18, .call 206, [.t 14, .c (.int .i64 6), .t 17], none, 0, 0⟩, ⟨.l 4, .p (.mv), [.t 18], none, 0, 0⟩])
 .ret))),
 [.tmp (.l 4)]⟩
theorem cf259_ok : compF TP Tryz.f259 = some cf259 := by kernel_rfl
def cf260 : CF := ⟨2, (.seq (.reg [⟨.l 4, .p (.mv), [.c (.bool false)], none, 0, 0⟩])
 (.seq (.seq (.reg [⟨.t 8, .p (.mv), [.l 1], none, 0, 0⟩, ⟨.l 9, .call 192, [.t 8], none, 0, 0⟩])
 (.block 0 (.seq (.reg [⟨.t 11, .p (.bin .eql), [.l 9, .c (.int .i64 0)], none, 0, 0⟩, ⟨.l 10, .p (.mv), [.t 11], none, 0, 0⟩])
 (.cond (.l 10) (.seq (.reg [⟨.l 4, .p (.mv), [.c (.bool false)], none, 0, 0⟩])
 .ret)
 (.seq (.reg [⟨.t 13, .p (.bin .eql), [.l 9, .c (.int .i64 3)], none, 0, 0⟩, ⟨.l 12, .p (.mv), [.t 13], none, 0, 0⟩])
 (.cond (.l 12) (.seq (.reg [⟨.t 14, .p (.mv), [.l 1], none, 0, 0⟩, ⟨.t 15, .call 330, [.t 14], none, 0, 0⟩, ⟨.l 4, .p (.mv), [.t 15], none, 0, 0⟩])
 .ret)
 .skip))))))
 (.seq (.reg [⟨.t 17, .p (.mv), [.l 0], none, 0, 0⟩, ⟨.t 18, .p (.mv), [.l 1], none, 0, 0⟩, ⟨.t 19, .call 127, [.t 17, .t 18], none, 0, 0⟩, ⟨.t 16, .p (.mv), [.t 19], none, 0, 0⟩, ⟨.t 20, .p (.ext 0), [.t 16], none, 0, 0⟩, ⟨.t 21, .p (.ext 1), [.t 16], none, 0, 0⟩, ⟨.t 22, .p (.ext 2), [.t 16], none, 0, 0⟩, ⟨.t 5, .p (.mv), [.t 20], none, 0, 0⟩, ⟨.t 6, .p (.mv), [.t 21], none, 0, 0⟩, ⟨.l 7, .p (.mv), [.t 22], none, 0, 0⟩])
 (.seq (.reg [⟨.t 23, .p (.mv), [.l 7], none, 0, 0⟩, ⟨.l 4, .p (.mv), [.t 23], none, 0, 0⟩])
 .ret)))),
 [.tmp (.l 4)]⟩
theorem cf260_ok : compF TP Tryz.f260 = some cf260 := by kernel_rfl
def cf261 : CF := ⟨1, (.seq (.reg [⟨.l 2, .p (.mv), [.c (.int .i64 0)], none, 0, 0⟩])
 (.seq (.seq (.reg [⟨.t 3, .p (.mv), [.l 0], none, 0, 0⟩, ⟨.t 4, .call 73, [.t 3], none, 0, 0⟩, ⟨.l 5, .p (.un .not), [.t 4], none, 0, 0⟩])
 (.cond (.l 5) (.seq (.reg [⟨.l 2, .p (.mv), [.c (.int .i64 0)], none, 0, 0⟩])
 .ret)
 .skip))
 (.seq (.reg [⟨.t 6, .p (.mv), [.l 0], none, 0, 0⟩, ⟨.t 7, .p (.nilc), [.t 6], none, 0, 0⟩, ⟨.t 8, .p (.fa 1), [.t 7], none, 0, 0⟩, ⟨.t 9, .r (.load false 1), [.t 8], none, 0, 0⟩, ⟨.t 10, .p (.leng .sl), [.t 9], none, 0, 0⟩, ⟨.l 2, .p (.mv), [.t 10], none, 0, 0⟩])
 .ret))),
 [.tmp (.l 2)]⟩
theorem cf261_ok : compF TP Tryz.f261 = some cf261 := by kernel_rfl
def cf262 : CF := ⟨1, (.seq (.reg [⟨.l 2, .p (.mv), [.c (.int .i64 0)], none, 0, 0⟩])
 (.seq (.reg [⟨.t 3, .p (.mv), [.l 0], none, 0, 0⟩, ⟨.t 4, .p (.bin .and), [.t 3, .c (.int .u64 15)], none, 0, 0⟩, ⟨.t 5, .p (.toInt .i64), [.t 4], none, 0, 0⟩, ⟨.l 2, .p (.mv), [.t 5], none, 0, 0⟩])
 .ret)),
 [.tmp (.l 2)]⟩
theorem cf262_ok : compF TP Tryz.f262 = some cf262 := by kernel_rfl
def cf263 : CF := ⟨1, (.seq (.reg [⟨.l 2, .p (.mv), [.c (.int .i64 0)], none, 0, 0⟩, ⟨.l 3, .p (.mv), [.c (.int .i64 0)], none, 0, 0⟩, ⟨.l 4, .p (.mv), [.c (.bool false)], none, 0, 0⟩])
 (.seq (.reg [⟨.t 5, .p (.mv), [.l 0], none, 0, 0⟩, ⟨.t 6, .p (.bin .shr), [.t 5, .c (.int .u64 2)], none, 0, 0⟩, ⟨.t 7, .p (.bin .and), [.t 6, .c (.int .u64 15)], none, 0, 0⟩, ⟨.t 8, .p (.toInt .i64), [.t 7], none, 0, 0⟩, ⟨.l 2, .p (.mv), [.t 8], none, 0, 0⟩])
 (.seq (.seq (.reg [⟨.t 9, .p (.mv), [.l 0], none, 0, 0⟩, ⟨.t 10, .call 192, [.t 9], none, 0, 0⟩, ⟨.t 11, .p (.bin .neq), [.t 10, .c (.int .i64 0)], none, 0, 0⟩, ⟨.t 12, .p (.mv), [.t 11], none, 0, 0⟩, ⟨.t 13, .p (.mv), [.l 2], (some (.t 12, false)), 0, 0⟩, ⟨.t 14, .p (.bin .lss), [.t 13, .c (.int .i64 1)], (some (.t 12, false)), 0, 0⟩, ⟨.t 15, .p (.pick), [.t 12, .c (.bool true), .t 14], none, 0, 0⟩, ⟨.t 16, .p (.mv), [.t 15], none, 0, 0⟩, ⟨.t 17, .p (.mv), [.l 2], (some (.t 16, false)), 0, 0⟩, ⟨.t 18, .p (.bin .gtr), [.t 17, .c (.int .i64 8)], (some (.t 16, false)), 0, 0⟩, ⟨.t 19, .p (.pick), [.t 16, .c (.bool true), .t 18], none, 0, 0⟩, ⟨.t 20, .p (.mv), [.t 19], none, 0, 0⟩, ⟨.t 21, .p (.mv), [.l 0], (some (.t 20, false)), 0, 0⟩, ⟨.t 22, .p (.bin .shr), [.t 21, .c (.int .u64 6)], (some (.t 20, false)), 0, 0⟩, ⟨.t 23, .p (.bin .gtr), [.t 22, .c (.int .u64 65535)], (some (.t 20, false)), 0, 0⟩, ⟨.l 24, .p (.pick), [.t 20, .c (.bool true), .t 23], none, 0, 0⟩])
 (.cond (.l 24) (.seq (.reg [⟨.l 2, .p (.mv), [.c (.int .i64 0)], none, 0, 0⟩, ⟨.l 3, .p (.mv), [.c (.int .i64 0)], none, 0, 0⟩, ⟨.l 4, .p (.mv), [.c (.bool false)], none, 0, 0⟩])
 .ret)
 .skip))
 (.seq (.reg [⟨.t 25, .p (.mv), [.l 2], none, 0, 0⟩, ⟨.t 26, .p (.mv), [.l 0], none, 0, 0⟩, ⟨.t 27, .p (.bin .shr), [.t 26, .c (.int .u64 6)], none, 0, 0⟩, ⟨.t 28, .p (.toInt .i64), [.t 27], none, 0, 0⟩, ⟨.l 2, .p (.mv), [.t 25], none, 0, 0⟩, ⟨.l 3, .p (.mv), [.t 28], none, 0, 0⟩, ⟨.l 4, .p (.mv), [.c (.bool true)], none, 0, 0⟩])
 .ret)))),
 [.tmp (.l 2), .tmp (.l 3), .tmp (.l 4)]⟩
theorem cf263_ok : compF TP Tryz.f263 = some cf263 := by kernel_rfl
def cf264 : CF := ⟨2, (.seq (.reg [⟨.l 4, .p (.mv), [.c (.int .i64 0)], none, 0, 0⟩])
 (.seq (.seq (.reg [⟨.t 6, .p (.mv), [.l 0], none, 0, 0⟩, ⟨.l 7, .p (.leng .sl), [.t 6], none, 0, 0⟩, ⟨.l 8, .p (.mv), [.c (.int .i64 0)], none, 0, 0⟩])
 (.block 0 (.loop (.seq (.reg [⟨.l 9, .p (.bin .lss), [.l 8, .l 7], none, 0, 0⟩])
 (.seq (.cond (.l 9) .skip
 (.exit 0))
 (.seq (.block 1 (.seq (.reg [⟨.t 10, .p (.mv), [.l 8], none, 0, 0⟩, ⟨.l 5, .p (.mv), [.t 10], none, 0, 0⟩])
 (.seq (.reg [⟨.t 11, .p (.mv), [.l 1], none, 0, 0⟩, ⟨.t 12, .p (.mv), [.l 0], none, 0, 0⟩, ⟨.t 13, .p (.mv), [.l 5], none, 0, 0⟩, ⟨.t 14, .p (.ixsl 1), [.t 12, .t 13], none, 0, 0⟩, ⟨.t 15, .r (.load false 1), [.t 14], none, 0, 0⟩, ⟨.l 16, .callv, [.t 11, .t 15], none, 0, 0⟩])
 (.cond (.l 16) (.seq (.reg [⟨.t 17, .p (.mv), [.l 5], none, 0, 0⟩, ⟨.l 4, .p (.mv), [.t 17], none, 0, 0⟩])
 .ret)
 .skip))))
 (.reg [⟨.t 18, .p (.bin .add), [.l 8, .c (.int .i64 1)], none, 0, 0⟩, ⟨.l 8, .p (.mv), [.t 18], none, 0, 0⟩])))))))
 (.seq (.reg [⟨.l 4, .p (.mv), [.c (.int .i64 (-1))], none, 0, 0⟩])
 .ret))),
 [.tmp (.l 4)]⟩
theorem cf264_ok : compF TP Tryz.f264 = some cf264 := by kernel_rfl
def cf265 : CF := ⟨2, (.seq (.reg [⟨.l 2, .a (.box), [.l 0], none, 0, 0⟩, ⟨.l 4, .a (.alloc [.nils, .nils, (.int .i64 0)]), [], none, 0, 0⟩, ⟨.l 5, .p (.mv), [.c .nils], none, 0, 0⟩, ⟨.l 6, .p (.mv), [.c (.int .i64 0)], none, 0, 0⟩])
 (.seq (.seq (.reg [⟨.t 9, .r (.load true 3), [.l 2], none, 0, 0⟩, ⟨.t 10, .p (.mv), [.l 1], none, 0, 0⟩, ⟨.t 11, .call 331, [.t 9, .t 10], none, 0, 0⟩, ⟨.l 12, .p (.un .not), [.t 11], none, 0, 0⟩])
 (.cond (.l 12) (.seq (.reg [⟨.t 13, .p (.build [.nils, .nils, (.int .i64 0)] []), [], none, 0, 0⟩, ⟨.no, .e (.store 3), [.l 4, .t 13], none, 0, 0⟩, ⟨.l 5, .p (.mv), [.c .nils], none, 0, 0⟩, ⟨.l 6, .p (.mv), [.c (.int .i64 6)], none, 0, 0⟩])
 .ret)
 .skip))
 (.seq (.regD [⟨.t 14, .p (.fa 1), [.l 2], none, 0, 0⟩, ⟨.t 15, .r (.load false 1), [.t 14], none, 0, 0⟩, ⟨.t 18, .r (.load true 3), [.l 2], none, 0, 1⟩, ⟨.t 19, .a (.mkm false), [], none, 0, 1⟩, ⟨.t 16, .call 216, [.t 15], none, 0, 1⟩, ⟨.t 17, .p (.build [.nils, .nils, (.int .i64 0)] [(1, 1)]), [.t 16], none, 1, 1⟩, ⟨.t 20, .p (.build [.nils, .nils, (.int .i64 0), .nils, .nils, (.int .i64 0), (.bool false), .nilm, .nils] [(0, 3), (3, 3), (7, 1)]), [.t 17, .t 18, .t 19], none, 1, 1⟩, ⟨.t 21, .a (.box), [.t 20], none, 1, 1⟩, ⟨.l 7, .p (.mv), [.t 21], none, 1, 1⟩])
 (.seq (.reg [⟨.t 22, .p (.mv), [.l 7], none, 0, 0⟩, ⟨.t 23, .p (.mv), [.l 1], none, 0, 0⟩, ⟨.t 24, .call 332, [.t 22, .t 23], none, 0, 0⟩, ⟨.l 8, .p (.mv), [.t 24], none, 0, 0⟩])
 (.seq (.reg [⟨.t 25, .p (.mv), [.l 7], none, 0, 0⟩, ⟨.t 26, .p (.mv), [.l 7], none, 0, 0⟩, ⟨.t 27, .p (.nilc), [.t 26], none, 0, 0⟩, ⟨.t 28, .p (.fa 0), [.t 27], none, 0, 0⟩, ⟨.t 29, .p (.fa 0), [.t 28], none, 0, 0⟩, ⟨.t 30, .r (.load false 1), [.t 29], none, 0, 0⟩, ⟨.t 31, .p (.leng .sl), [.t 30], none, 0, 0⟩, ⟨.t 32, .p (.nilc), [.t 25], none, 0, 0⟩, ⟨.t 33, .p (.fa 0), [.t 32], none, 0, 0⟩, ⟨.t 34, .p (.fa 2), [.t 33], none, 0, 0⟩, ⟨.no, .e (.store 1), [.t 34, .t 31], none, 0, 0⟩])
 (.seq (.reg [⟨.t 35, .p (.mv), [.l 7], none, 0, 0⟩, ⟨.t 36, .p (.nilc), [.t 35], none, 0, 0⟩, ⟨.t 37, .p (.fa 0), [.t 36], none, 0, 0⟩, ⟨.t 38, .r (.load true 3), [.t 37], none, 0, 0⟩, ⟨.t 39, .p (.mv), [.l 8], none, 0, 0⟩, ⟨.no, .e (.store 3), [.l 4, .t 38], none, 0, 0⟩, ⟨.l 5, .p (.mv), [.t 39], none, 0, 0⟩, ⟨.l 6, .p (.mv), [.c (.int .i64 0)], none, 0, 0⟩])
 .ret)))))),
 [.cell (.l 4) true 3, .tmp (.l 5), .tmp (.l 6)]⟩
theorem cf265_ok : compF TP Tryz.f265 = some cf265 := by kernel_rfl
def cf266 : CF := ⟨2, (.seq (.reg [⟨.l 2, .a (.box), [.l 0], none, 0, 0⟩, ⟨.l 4, .a (.alloc [.nils, .nils, (.int .i64 0)]), [], none, 0, 0⟩, ⟨.l 5, .p (.mv), [.c .nils], none, 0, 0⟩, ⟨.l 6, .p (.mv), [.c (.int .i64 0)], none, 0, 0⟩])
 (.seq (.seq (.reg [⟨.t 8, .r (.load true 3), [.l 2], none, 0, 0⟩, ⟨.t 9, .p (.mv), [.l 1], none, 0, 0⟩, ⟨.t 10, .call 331, [.t 8, .t 9], none, 0, 0⟩, ⟨.l 11, .p (.un .not), [.t 10], none, 0, 0⟩])
 (.cond (.l 11) (.seq (.reg [⟨.t 12, .p (.build [.nils, .nils, (.int .i64 0)] []), [], none, 0, 0⟩, ⟨.no, .e (.store 3), [.l 4, .t 12], none, 0, 0⟩, ⟨.l 5, .p (.mv), [.c .nils], none, 0, 0⟩, ⟨.l 6, .p (.mv), [.c (.int .i64 6)], none, 0, 0⟩])
 .ret)
 .skip))
 (.seq (.reg [⟨.t 13, .r (.load true 3), [.l 2], none, 0, 0⟩, ⟨.t 14, .a (.mkm false), [], none, 0, 0⟩, ⟨.t 15, .p (.build [.nils, .nils, (.int .i64 0), .nils, .nils, (.int .i64 0), (.bool false), .nilm, .nils] [(3, 3), (6, 1), (7, 1)]), [.t 13, .c (.bool true), .t 14], none, 0, 0⟩, ⟨.t 16, .a (.box), [.t 15], none, 0, 0⟩, ⟨.l 7, .p (.mv), [.t 16], none, 0, 0⟩])
 (.seq (.reg [⟨.t 17, .p (.mv), [.l 7], none, 0, 0⟩, ⟨.t 18, .p (.mv), [.l 7], none, 0, 0⟩, ⟨.t 19, .p (.mv), [.l 1], none, 0, 0⟩, ⟨.t 20, .call 332, [.t 18, .t 19], none, 0, 0⟩, ⟨.t 21, .call 333, [.t 17, .t 20], none, 0, 0⟩, ⟨.t 22, .p (.ext 0), [.t 21], none, 0, 0⟩, ⟨.t 23, .p (.ext 1), [.t 21], none, 0, 0⟩, ⟨.t 24, .p (.ext 2), [.t 21], none, 0, 0⟩, ⟨.no, .e (.store 3), [.l 4, .t 22], none, 0, 0⟩, ⟨.l 5, .p (.mv), [.t 23], none, 0, 0⟩, ⟨.l 6, .p (.mv), [.t 24], none, 0, 0⟩])
 .ret)))),
 [.cell (.l 4) true 3, .tmp (.l 5), .tmp (.l 6)]⟩
theorem cf266_ok : compF TP Tryz.f266 = some cf266 := by kernel_rfl
def cf267 : CF := ⟨1, (.seq (.reg [⟨.l 1, .a (.box), [.l 0], none, 0, 0⟩, ⟨.l 2, .a (.alloc [.nils, .nils, .nils, .nils]), [], none, 0, 0⟩, ⟨.l 3, .a (.alloc [(.bool false)]), [], none, 0, 0⟩])
 (.seq (.reg [⟨.t 22, .p (.fa 0), [.l 1], none, 0, 0⟩, ⟨.t 23, .r (.load false 1), [.t 22], none, 0, 0⟩, ⟨.t 24, .call 334, [.t 23], none, 0, 0⟩, ⟨.t 21, .p (.mv), [.t 24], none, 0, 0⟩, ⟨.t 25, .p (.ext 0), [.t 21], none, 0, 0⟩, ⟨.t 26, .p (.ext 1), [.t 21], none, 0, 0⟩, ⟨.l 4, .a (.alloc [.nils, .nils]), [], none, 0, 0⟩, ⟨.no, .e (.store 2), [.l 4, .t 25], none, 0, 0⟩, ⟨.l 5, .p (.mv), [.t 26], none, 0, 0⟩])
 (.seq (.reg [⟨.t 28, .p (.fa 1), [.l 1], none, 0, 0⟩, ⟨.t 29, .r (.load false 1), [.t 28], none, 0, 0⟩, ⟨.t 30, .call 334, [.t 29], none, 0, 0⟩, ⟨.t 27, .p (.mv), [.t 30], none, 0, 0⟩, ⟨.t 31, .p (.ext 0), [.t 27], none, 0, 0⟩, ⟨.t 32, .p (.ext 1), [.t 27], none, 0, 0⟩, ⟨.l 6, .a (.alloc [.nils, .nils]), [], none, 0, 0⟩, ⟨.no, .e (.store 2), [.l 6, .t 31], none, 0, 0⟩, ⟨.l 7, .p (.mv), [.t 32], none, 0, 0⟩])
 (.seq (.reg [⟨.t 33, .r (.load true 2), [.l 4], none, 0, 0⟩, ⟨.t 34, .r (.load true 2), [.l 6], none, 0, 0⟩, ⟨.t 35, .p (.build [.nils, .nils, .nils, .nils] [(0, 2), (2, 2)]), [.t 33, .t 34], none, 0, 0⟩, ⟨.l 8, .a (.alloc [.nils, .nils, .nils, .nils]), [], none, 0, 0⟩, ⟨.no, .e (.store 4), [.l 8, .t 35], none, 0, 0⟩])
 (.seq (.seq (.reg [⟨.t 36, .p (.mv), [.l 5], none, 0, 0⟩, ⟨.t 37, .p (.un .not), [.t 36], none, 0, 0⟩, ⟨.t 38, .p (.mv), [.t 37], none, 0, 0⟩, ⟨.t 39, .p (.mv), [.l 7], (some (.t 38, false)), 0, 0⟩, ⟨.t 40, .p (.un .not), [.t 39], (some (.t 38, false)), 0, 0⟩, ⟨.t 41, .p (.pick), [.t 38, .c (.bool true), .t 40], none, 0, 0⟩, ⟨.t 42, .p (.mv), [.t 41], none, 0, 0⟩, ⟨.t 43, .p (.fa 0), [.l 1], (some (.t 42, false)), 0, 0⟩, ⟨.t 44, .r (.load false 1), [.t 43], (some (.t 42, false)), 0, 0⟩, ⟨.t 45, .p (.leng .sl), [.t 44], (some (.t 42, false)), 0, 0⟩, ⟨.t 46, .p (.bin .gtr), [.t 45, .c (.int .i64 2147483647)], (some (.t 42, false)), 0, 0⟩, ⟨.t 47, .p (.pick), [.t 42, .c (.bool true), .t 46], none, 0, 0⟩, ⟨.t 48, .p (.mv), [.t 47], none, 0, 0⟩, ⟨.t 49, .p (.fa 1), [.l 1], (some (.t 48, false)), 0, 0⟩, ⟨.t 50, .r (.load false 1), [.t 49], (some (.t 48, false)), 0, 0⟩, ⟨.t 51, .p (.leng .sl), [.t 50], (some (.t 48, false)), 0, 0⟩, ⟨.t 52, .p (.bin .gtr), [.t 51, .c (.int .i64 2147483647)], (some (.t 48, false)), 0, 0⟩, ⟨.t 53, .p (.pick), [.t 48, .c (.bool true), .t 52], none, 0, 0⟩, ⟨.t 54, .p (.mv), [.t 53], none, 0, 0⟩, ⟨.t 55, .p (.fa 2), [.l 1], (some (.t 54, false)), 0, 0⟩, ⟨.t 56, .r (.load false 1), [.t 55], (some (.t 54, false)), 0, 0⟩, ⟨.t 57, .p (.bin .lss), [.t 56, .c (.int .i64 0)], (some (.t 54, false)), 0, 0⟩, ⟨.t 58, .p (.pick), [.t 54, .c (.bool true), .t 57], none, 0, 0⟩, ⟨.t 59, .p (.mv), [.t 58], none, 0, 0⟩, ⟨.t 60, .p (.fa 2), [.l 1], (some (.t 59, false)), 0, 0⟩, ⟨.t 61, .r (.load false 1), [.t 60], (some (.t 59, false)), 0, 0⟩, ⟨.t 62, .p (.fa 0), [.l 1], (some (.t 59, false)), 0, 0⟩, ⟨.t 63, .r (.load false 1), [.t 62], (some (.t 59, false)), 0, 0⟩, ⟨.t 64, .p (.leng .sl), [.t 63], (some (.t 59, false)), 0, 0⟩, ⟨.t 65, .p (.bin .gtr), [.t 61, .t 64], (some (.t 59, false)), 0, 0⟩, ⟨.t 66, .p (.pick), [.t 59, .c (.bool true), .t 65], none, 0, 0⟩, ⟨.t 67, .p (.mv), [.t 66], none, 0, 0⟩, ⟨.t 68, .p (.fa 2), [.l 1], (some (.t 67, false)), 0, 0⟩, ⟨.t 69, .r (.load false 1), [.t 68], (some (.t 67, false)), 0, 0⟩, ⟨.t 70, .p (.fa 0), [.l 1], (some (.t 67, false)), 0, 0⟩, ⟨.t 71, .r (.load false 1), [.t 70], (some (.t 67, false)), 0, 0⟩, ⟨.t 72, .p (.leng .sl), [.t 71], (some (.t 67, false)), 0, 0⟩, ⟨.t 73, .p (.bin .lss), [.t 69, .t 72], (some (.t 67, false)), 0, 0⟩, ⟨.t 74, .p (.mv), [.t 73], (some (.t 67, false)), 0, 0⟩, ⟨.t 75, .p (.fa 1), [.l 4], (some (.t 74, true)), 0, 0⟩, ⟨.t 76, .r (.load false 1), [.t 75], (some (.t 74, true)), 0, 0⟩, ⟨.t 77, .p (.fa 2), [.l 1], (some (.t 74, true)), 0, 0⟩, ⟨.t 78, .r (.load false 1), [.t 77], (some (.t 74, true)), 0, 0⟩, ⟨.t 79, .p (.ixsl 1), [.t 76, .t 78], (some (.t 74, true)), 0, 0⟩, ⟨.t 80, .r (.load false 1), [.t 79], (some (.t 74, true)), 0, 0⟩, ⟨.t 81, .p (.un .not), [.t 80], (some (.t 74, true)), 0, 0⟩, ⟨.t 82, .p (.pick), [.t 74, .t 81, .c (.bool false)], (some (.t 67, false)), 0, 0⟩, ⟨.l 83, .p (.pick), [.t 67, .c (.bool true), .t 82], none, 0, 0⟩])
 (.cond (.l 83) (.seq (.reg [⟨.t 84, .p (.build [.nils, .nils, .nils, .nils] []), [], none, 0, 0⟩, ⟨.no, .e (.store 4), [.l 2, .t 84], none, 0, 0⟩, ⟨.no, .e (.store 1), [.l 3, .c (.bool false)], none, 0, 0⟩])
 .ret)
 .skip))
 (.seq (.seq (.reg [⟨.l 85, .call 233, [.l 8], none, 0, 0⟩])
 (.block 0 (.rangeF (.l 85) [.l 86] (.reg [⟨.l 9, .p (.mv), [.l 86], none, 0, 0⟩]) (.block 1 (.seq (.reg [⟨.t 88, .p (.mv), [.l 9], none, 0, 0⟩, ⟨.t 89, .call 189, [.t 88], none, 0, 0⟩, ⟨.t 87, .p (.mv), [.t 89], none, 0, 0⟩, ⟨.t 90, .p (.ext 0), [.t 87], none, 0, 0⟩, ⟨.t 91, .p (.ext 1), [.t 87], none, 0, 0⟩, ⟨.t 92, .p (.ext 2), [.t 87], none, 0, 0⟩, ⟨.l 10, .p (.mv), [.t 90], none, 0, 0⟩, ⟨.l 11, .p (.mv), [.t 91], none, 0, 0⟩, ⟨.t 12, .p (.mv), [.t 92], none, 0, 0⟩])
 (.seq (.reg [⟨.t 94, .p (.mv), [.l 9], none, 0, 0⟩, ⟨.t 95, .call 127, [.l 8, .t 94], none, 0, 0⟩, ⟨.t 93, .p (.mv), [.t 95], none, 0, 0⟩, ⟨.t 96, .p (.ext 0), [.t 93], none, 0, 0⟩, ⟨.t 97, .p (.ext 1), [.t 93], none, 0, 0⟩, ⟨.t 98, .p (.ext 2), [.t 93], none, 0, 0⟩, ⟨.l 13, .p (.mv), [.t 96], none, 0, 0⟩, ⟨.l 14, .p (.mv), [.t 97], none, 0, 0⟩, ⟨.t 15, .p (.mv), [.t 98], none, 0, 0⟩])
 (.seq (.seq (.reg [⟨.t 99, .p (.mv), [.l 13], none, 0, 0⟩, ⟨.t 100, .p (.mv), [.l 14], none, 0, 0⟩, ⟨.t 101, .call 335, [.t 99, .t 100], none, 0, 0⟩, ⟨.l 102, .p (.un .not), [.t 101], none, 0, 0⟩])
 (.cond (.l 102) (.seq (.reg [⟨.t 103, .p (.build [.nils, .nils, .nils, .nils] []), [], none, 0, 0⟩, ⟨.no, .e (.store 4), [.l 2, .t 103], none, 0, 0⟩, ⟨.no, .e (.store 1), [.l 3, .c (.bool false)], none, 0, 0⟩])
 .ret)
 .skip))
 (.seq (.reg [⟨.t 104, .p (.mv), [.l 14], none, 0, 0⟩, ⟨.t 105, .p (.mv), [.l 13], none, 0, 0⟩, ⟨.t 106, .p (.mv), [.l 14], none, 0, 0⟩, ⟨.t 107, .call 128, [.t 105, .t 106], none, 0, 0⟩, ⟨.l 108, .p (.slc (.sl 1) true false false), [.t 104, .t 107], none, 0, 0⟩, ⟨.l 109, .p (.leng .sl), [.l 108], none, 0, 0⟩, ⟨.l 110, .p (.mv), [.c (.int .i64 0)], none, 0, 0⟩])
 (.block 2 (.loop (.seq (.reg [⟨.l 111, .p (.bin .lss), [.l 110, .l 109], none, 0, 0⟩])
 (.seq (.cond (.l 111) .skip
 (.exit 2))
 (.seq (.block 3 (.seq (.reg [⟨.t 112, .p (.ixsl 1), [.l 108, .l 110], none, 0, 0⟩, ⟨.t 113, .r (.load false 1), [.t 112], none, 0, 0⟩, ⟨.l 17, .p (.mv), [.t 113], none, 0, 0⟩])
 (.seq (.seq (.reg [⟨.t 114, .p (.mv), [.l 17], none, 0, 0⟩, ⟨.t 115, .call 260, [.l 8, .t 114], none, 0, 0⟩, ⟨.l 116, .p (.un .not), [.t 115], none, 0, 0⟩])
 (.cond (.l 116) (.seq (.reg [⟨.t 117, .p (.build [.nils, .nils, .nils, .nils] []), [], none, 0, 0⟩, ⟨.no, .e (.store 4), [.l 2, .t 117], none, 0, 0⟩, ⟨.no, .e (.store 1), [.l 3, .c (.bool false)], none, 0, 0⟩])
 .ret)
 .skip))
 (.seq (.reg [⟨.t 119, .p (.mv), [.l 17], none, 0, 0⟩, ⟨.t 120, .call 189, [.t 119], none, 0, 0⟩, ⟨.t 118, .p (.mv), [.t 120], none, 0, 0⟩, ⟨.t 121, .p (.ext 0), [.t 118], none, 0, 0⟩, ⟨.t 122, .p (.ext 1), [.t 118], none, 0, 0⟩, ⟨.t 123, .p (.ext 2), [.t 118], none, 0, 0⟩, ⟨.l 18, .p (.mv), [.t 121], none, 0, 0⟩, ⟨.l 19, .p (.mv), [.t 122], none, 0, 0⟩, ⟨.l 20, .p (.mv), [.t 123], none, 0, 0⟩])
 (.seq (.reg [⟨.t 124, .p (.mv), [.l 20], none, 0, 0⟩, ⟨.t 125, .p (.mv), [.t 124], none, 0, 0⟩, ⟨.t 126, .p (.mv), [.l 18], (some (.t 125, true)), 0, 0⟩, ⟨.t 127, .p (.un .not), [.t 126], (some (.t 125, true)), 0, 0⟩, ⟨.t 128, .p (.pick), [.t 125, .t 127, .c (.bool false)], none, 0, 0⟩, ⟨.t 129, .p (.mv), [.t 128], none, 0, 0⟩, ⟨.t 130, .p (.mv), [.l 10], (some (.t 129, true)), 0, 0⟩, ⟨.t 131, .p (.mv), [.t 130], (some (.t 129, true)), 0, 0⟩, ⟨.t 132, .p (.mv), [.l 11], (some (.t 131, false)), 0, 0⟩, ⟨.t 133, .p (.fa 2), [.l 1], (some (.t 131, false)), 0, 0⟩, ⟨.t 134, .r (.load false 1), [.t 133], (some (.t 131, false)), 0, 0⟩, ⟨.t 135, .p (.bin .lss), [.t 132, .t 134], (some (.t 131, false)), 0, 0⟩, ⟨.t 136, .p (.mv), [.t 135], (some (.t 131, false)), 0, 0⟩, ⟨.t 137, .p (.mv), [.l 19], (some (.t 136, true)), 0, 0⟩, ⟨.t 138, .p (.fa 2), [.l 1], (some (.t 136, true)), 0, 0⟩, ⟨.t 139, .r (.load false 1), [.t 138], (some (.t 136, true)), 0, 0⟩, ⟨.t 140, .p (.bin .geq), [.t 137, .t 139], (some (.t 136, true)), 0, 0⟩, ⟨.t 141, .p (.pick), [.t 136, .t 140, .c (.bool false)], (some (.t 131, false)), 0, 0⟩, ⟨.t 142, .p (.pick), [.t 131, .c (.bool true), .t 141], (some (.t 129, true)), 0, 0⟩, ⟨.l 143, .p (.pick), [.t 129, .t 142, .c (.bool false)], none, 0, 0⟩])
 (.cond (.l 143) (.seq (.reg [⟨.t 144, .p (.build [.nils, .nils, .nils, .nils] []), [], none, 0, 0⟩, ⟨.no, .e (.store 4), [.l 2, .t 144], none, 0, 0⟩, ⟨.no, .e (.store 1), [.l 3, .c (.bool false)], none, 0, 0⟩])
 .ret)
 .skip))))))
 (.reg [⟨.t 145, .p (.bin .add), [.l 110, .c (.int .i64 1)], none, 0, 0⟩, ⟨.l 110, .p (.mv), [.t 145], none, 0, 0⟩]))))))))))))))
 (.seq (.reg [⟨.t 146, .r (.load true 4), [.l 8], none, 0, 0⟩, ⟨.no, .e (.store 4), [.l 2, .t 146], none, 0, 0⟩, ⟨.no, .e (.store 1), [.l 3, .c (.bool true)], none, 0, 0⟩])
 .ret))))))),
 [.cell (.l 2) true 4, .cell (.l 3) false 1]⟩
theorem cf267_ok : compF TP Tryz.f267 = some cf267 := by kernel_rfl
def cf268 : CF := ⟨2, (.seq (.reg [⟨.l 2, .a (.box), [.l 0], none, 0, 0⟩, ⟨.l 3, .a (.box), [.l 1], none, 0, 0⟩, ⟨.l 4, .a (.alloc [(.bool false)]), [], none, 0, 0⟩])
 (.seq (.reg [⟨.t 17, .a (.mkm false), [], none, 0, 0⟩, ⟨.l 5, .a (.alloc [.nilm]), [], none, 0, 0⟩, ⟨.no, .e (.store 1), [.l 5, .t 17], none, 0, 0⟩])
 (.seq (.reg [⟨.l 6, .a (.alloc [.nilf]), [], none, 0, 0⟩])
 (.seq (.reg [⟨.t 18, .p (.mkf (.func 336) 0), [.l 3, .l 5, .l 6], none, 0, 0⟩, ⟨.no, .e (.store 1), [.l 6, .t 18], none, 0, 0⟩])
 (.seq (.seq (.reg [⟨.t 19, .r (.load false 1), [.l 3], none, 0, 0⟩, ⟨.l 20, .call 233, [.t 19], none, 0, 0⟩])
 (.block 0 (.rangeF (.l 20) [.l 21] (.reg [⟨.l 7, .p (.mv), [.l 21], none, 0, 0⟩]) (.block 1 (.seq (.reg [⟨.t 23, .r (.load false 1), [.l 3], none, 0, 0⟩, ⟨.t 24, .p (.mv), [.l 7], none, 0, 0⟩, ⟨.t 25, .call 127, [.t 23, .t 24], none, 0, 0⟩, ⟨.t 22, .p (.mv), [.t 25], none, 0, 0⟩, ⟨.t 26, .p (.ext 0), [.t 22], none, 0, 0⟩, ⟨.t 27, .p (.ext 1), [.t 22], none, 0, 0⟩, ⟨.t 28, .p (.ext 2), [.t 22], none, 0, 0⟩, ⟨.l 8, .p (.mv), [.t 26], none, 0, 0⟩, ⟨.l 9, .p (.mv), [.t 27], none, 0, 0⟩, ⟨.t 10, .p (.mv), [.t 28], none, 0, 0⟩])
 (.seq (.seq (.reg [⟨.t 29, .p (.mv), [.l 8], none, 0, 0⟩, ⟨.l 30, .p (.bin .eql), [.t 29, .c (.int .i64 8)], none, 0, 0⟩])
 (.cond (.l 30) (.seq (.regD [⟨.t 32, .r (.load false 1), [.l 2], none, 0, 1⟩, ⟨.t 33, .p (.nilc), [.t 32], none, 0, 1⟩, ⟨.t 34, .p (.fa 7), [.t 33], none, 0, 1⟩, ⟨.t 35, .r (.load false 1), [.t 34], none, 0, 1⟩, ⟨.t 36, .p (.mv), [.l 9], none, 0, 0⟩, ⟨.t 37, .p (.ixsl 1), [.t 36, .c (.int .i64 0)], none, 0, 0⟩, ⟨.t 38, .r (.load false 1), [.t 37], none, 0, 0⟩, ⟨.t 39, .call 211, [.t 38], none, 0, 1⟩, ⟨.t 40, .call 305, [.t 35, .t 39], none, 1, 2⟩, ⟨.t 31, .p (.mv), [.t 40], none, 2, 2⟩, ⟨.t 41, .p (.ext 0), [.t 31], none, 2, 2⟩, ⟨.t 42, .p (.ext 1), [.t 31], none, 2, 2⟩, ⟨.l 11, .p (.mv), [.t 41], none, 2, 2⟩, ⟨.l 12, .p (.mv), [.t 42], none, 2, 2⟩])
 (.seq (.regD [⟨.t 43, .p (.mv), [.l 12], none, 0, 0⟩, ⟨.t 44, .p (.un .not), [.t 43], none, 0, 0⟩, ⟨.t 45, .p (.mv), [.t 44], none, 0, 0⟩, ⟨.t 46, .p (.mv), [.l 9], (some (.t 45, false)), 0, 0⟩, ⟨.t 47, .p (.ixsl 1), [.t 46, .c (.int .i64 1)], (some (.t 45, false)), 0, 0⟩, ⟨.t 48, .r (.load false 1), [.t 47], (some (.t 45, false)), 0, 0⟩, ⟨.t 50, .p (.mv), [.l 9], (some (.t 45, false)), 0, 1⟩, ⟨.t 51, .p (.ixsl 1), [.t 50, .c (.int .i64 2)], (some (.t 45, false)), 0, 1⟩, ⟨.t 52, .r (.load false 1), [.t 51], (some (.t 45, false)), 0, 1⟩, ⟨.t 55, .p (.mv), [.l 11], (some (.t 45, false)), 0, 2⟩, ⟨.t 56, .p (.leng .str), [.t 55], (some (.t 45, false)), 0, 2⟩, ⟨.t 57, .p (.bin .mul), [.c (.int .i64 8), .t 56], (some (.t 45, false)), 0, 2⟩, ⟨.t 49, .call 211, [.t 48], (some (.t 45, false)), 0, 1⟩, ⟨.t 53, .call 211, [.t 52], (some (.t 45, false)), 1, 2⟩, ⟨.t 54, .p (.bin .add), [.t 49, .t 53], (some (.t 45, false)), 2, 2⟩, ⟨.t 58, .p (.bin .gtr), [.t 54, .t 57], (some (.t 45, false)), 2, 2⟩, ⟨.l 59, .p (.pick), [.t 45, .c (.bool true), .t 58], none, 2, 2⟩])
 (.cond (.l 59) (.seq (.reg [⟨.no, .e (.store 1), [.l 4, .c (.bool false)], none, 0, 0⟩])
 .ret)
 .skip)))
 .skip))
 (.seq (.seq (.reg [⟨.l 60, .p (.mv), [.l 9], none, 0, 0⟩, ⟨.l 61, .p (.leng .sl), [.l 60], none, 0, 0⟩, ⟨.l 62, .p (.mv), [.c (.int .i64 0)], none, 0, 0⟩])
 (.block 2 (.loop (.seq (.reg [⟨.l 63, .p (.bin .lss), [.l 62, .l 61], none, 0, 0⟩])
 (.seq (.cond (.l 63) .skip
 (.exit 2))
 (.seq (.block 3 (.seq (.reg [⟨.t 64, .p (.ixsl 1), [.l 60, .l 62], none, 0, 0⟩, ⟨.t 65, .r (.load false 1), [.t 64], none, 0, 0⟩, ⟨.l 14, .p (.mv), [.t 65], none, 0, 0⟩])
 (.seq (.reg [⟨.t 67, .p (.mv), [.l 14], none, 0, 0⟩, ⟨.t 68, .call 188, [.t 67], none, 0, 0⟩, ⟨.t 66, .p (.mv), [.t 68], none, 0, 0⟩, ⟨.t 69, .p (.ext 0), [.t 66], none, 0, 0⟩, ⟨.t 70, .p (.ext 1), [.t 66], none, 0, 0⟩, ⟨.l 15, .p (.mv), [.t 69], none, 0, 0⟩, ⟨.l 16, .p (.mv), [.t 70], none, 0, 0⟩])
 (.seq (.reg [⟨.t 71, .p (.mv), [.l 16], none, 0, 0⟩, ⟨.t 72, .p (.mv), [.t 71], none, 0, 0⟩, ⟨.t 73, .p (.mv), [.l 8], (some (.t 72, true)), 0, 0⟩, ⟨.t 74, .p (.bin .neq), [.t 73, .c (.int .i64 6)], (some (.t 72, true)), 0, 0⟩, ⟨.t 75, .p (.pick), [.t 72, .t 74, .c (.bool false)], none, 0, 0⟩, ⟨.t 76, .p (.mv), [.t 75], none, 0, 0⟩, ⟨.t 77, .p (.mv), [.l 8], (some (.t 76, true)), 0, 0⟩, ⟨.t 78, .p (.bin .neq), [.t 77, .c (.int .i64 7)], (some (.t 76, true)), 0, 0⟩, ⟨.t 79, .p (.pick), [.t 76, .t 78, .c (.bool false)], none, 0, 0⟩, ⟨.t 80, .p (.mv), [.t 79], none, 0, 0⟩, ⟨.t 81, .p (.mv), [.l 15], (some (.t 80, true)), 0, 0⟩, ⟨.t 82, .r (.load false 1), [.l 2], (some (.t 80, true)), 0, 0⟩, ⟨.t 83, .p (.nilc), [.t 82], (some (.t 80, true)), 0, 0⟩, ⟨.t 84, .p (.fa 6), [.t 83], (some (.t 80, true)), 0, 0⟩, ⟨.t 85, .r (.load false 1), [.t 84], (some (.t 80, true)), 0, 0⟩, ⟨.t 86, .call 261, [.t 85], (some (.t 80, true)), 0, 0⟩, ⟨.t 87, .p (.bin .geq), [.t 81, .t 86], (some (.t 80, true)), 0, 0⟩, ⟨.l 88, .p (.pick), [.t 80, .t 87, .c (.bool false)], none, 0, 0⟩])
 (.cond (.l 88) (.seq (.reg [⟨.no, .e (.store 1), [.l 4, .c (.bool false)], none, 0, 0⟩])
 .ret)
 .skip)))))
 (.reg [⟨.t 89, .p (.bin .add), [.l 62, .c (.int .i64 1)], none, 0, 0⟩, ⟨.l 62, .p (.mv), [.t 89], none, 0, 0⟩])))))))
 (.seq (.reg [⟨.t 90, .r (.load false 1), [.l 6], none, 0, 0⟩, ⟨.t 91, .p (.mv), [.l 7], none, 0, 0⟩, ⟨.t 92, .callv, [.t 90, .t 91], none, 0, 0⟩, ⟨.l 93, .p (.bin .gtr), [.t 92, .c (.int .i64 2000)], none, 0, 0⟩])
 (.cond (.l 93) (.seq (.reg [⟨.no, .e (.store 1), [.l 4, .c (.bool false)], none, 0, 0⟩])
 .ret)
 .skip)))))))))
 (.seq (.reg [⟨.no, .e (.store 1), [.l 4, .c (.bool true)], none, 0, 0⟩])
 .ret)))))),
 [.cell (.l 4) false 1]⟩
theorem cf268_ok : compF TP Tryz.f268 = some cf268 := by kernel_rfl
def cf269 : CF := ⟨1, (.seq (.reg [⟨.l 1, .a (.box), [.l 0], none, 0, 0⟩, ⟨.l 2, .a (.alloc [(.int .i64 0), (.int .i64 0), (.int .i64 0), (.str 0 0), (.str 0 0), (.int .i64 0), .nils, (.str 0 0), (.int .i64 0)]), [], none, 0, 0⟩, ⟨.l 3, .p (.mv), [.c (.bool false)], none, 0, 0⟩])
 (.seq (.reg [⟨.t 5, .p (.fa 1), [.l 1], none, 0, 0⟩, ⟨.t 6, .r (.load false 1), [.t 5], none, 0, 0⟩, ⟨.t 7, .call 270, [.t 6, .c (.int .i64 1), .c (.int .i64 2147483647)], none, 0, 0⟩, ⟨.t 8, .p (.mv), [.t 7], none, 0, 0⟩, ⟨.t 9, .p (.fa 2), [.l 1], (some (.t 8, true)), 0, 0⟩, ⟨.t 10, .r (.load false 1), [.t 9], (some (.t 8, true)), 0, 0⟩, ⟨.t 11, .call 270, [.t 10, .c (.int .i64 1), .c (.int .i64 2147483647)], (some (.t 8, true)), 0, 0⟩, ⟨.t 12, .p (.pick), [.t 8, .t 11, .c (.bool false)], none, 0, 0⟩, ⟨.t 13, .p (.mv), [.t 12], none, 0, 0⟩, ⟨.t 14, .p (.fa 3), [.l 1], (some (.t 13, true)), 0, 0⟩, ⟨.t 15, .r (.load false 1), [.t 14], (some (.t 13, true)), 0, 0⟩, ⟨.t 16, .call 47, [.t 15], (some (.t 13, true)), 0, 0⟩, ⟨.t 17, .p (.pick), [.t 13, .t 16, .c (.bool false)], none, 0, 0⟩, ⟨.l 4, .p (.mv), [.t 17], none, 0, 0⟩])
 (.seq (.reg [⟨.t 18, .p (.fa 1), [.l 1], none, 0, 0⟩, ⟨.no, .e (.store 1), [.t 18, .c (.int .i64 0)], none, 0, 0⟩, ⟨.t 19, .p (.fa 2), [.l 1], none, 0, 0⟩, ⟨.no, .e (.store 1), [.t 19, .c (.int .i64 0)], none, 0, 0⟩, ⟨.t 20, .p (.fa 3), [.l 1], none, 0, 0⟩, ⟨.no, .e (.store 1), [.t 20, .c (.str 0 0)], none, 0, 0⟩])
 (.seq (.reg [⟨.t 21, .r (.load true 9), [.l 1], none, 0, 0⟩, ⟨.t 22, .p (.mv), [.l 4], none, 0, 0⟩, ⟨.no, .e (.store 9), [.l 2, .t 21], none, 0, 0⟩, ⟨.l 3, .p (.mv), [.t 22], none, 0, 0⟩])
 .ret)))),
 [.cell (.l 2) true 9, .tmp (.l 3)]⟩
theorem cf269_ok : compF TP Tryz.f269 = some cf269 := by kernel_rfl
def cf270 : CF := ⟨3, (.seq (.reg [⟨.l 6, .p (.mv), [.c (.bool false)], none, 0, 0⟩])
 (.seq (.reg [⟨.t 7, .p (.mv), [.l 0], none, 0, 0⟩, ⟨.t 8, .p (.mv), [.l 1], none, 0, 0⟩, ⟨.t 9, .p (.bin .geq), [.t 7, .t 8], none, 0, 0⟩, ⟨.t 10, .p (.mv), [.t 9], none, 0, 0⟩, ⟨.t 11, .p (.mv), [.l 0], (some (.t 10, true)), 0, 0⟩, ⟨.t 12, .p (.mv), [.l 2], (some (.t 10, true)), 0, 0⟩, ⟨.t 13, .p (.bin .leq), [.t 11, .t 12], (some (.t 10, true)), 0, 0⟩, ⟨.t 14, .p (.pick), [.t 10, .t 13, .c (.bool false)], none, 0, 0⟩, ⟨.l 6, .p (.mv), [.t 14], none, 0, 0⟩])
 .ret)),
 [.tmp (.l 6)]⟩
theorem cf270_ok : compF TP Tryz.f270 = some cf270 := by kernel_rfl
def cf271 : CF := ⟨1, (.seq (.reg [⟨.l 1, .a (.box), [.l 0], none, 0, 0⟩, ⟨.l 2, .a (.alloc [(.int .i64 0), (.int .i64 0), (.int .i64 0), (.str 0 0), (.str 0 0), (.int .i64 0), .nils, (.str 0 0), (.int .i64 0)]), [], none, 0, 0⟩, ⟨.l 3, .p (.mv), [.c (.bool false)], none, 0, 0⟩])
 (.seq (.reg [⟨.t 4, .r (.load true 9), [.l 1], none, 0, 0⟩, ⟨.no, .e (.store 9), [.l 2, .t 4], none, 0, 0⟩, ⟨.l 3, .p (.mv), [.c (.bool false)], none, 0, 0⟩])
 .ret)),
 [.cell (.l 2) true 9, .tmp (.l 3)]⟩
theorem cf271_ok : compF TP Tryz.f271 = some cf271 := by kernel_rfl
def cf272 : CF := ⟨1, (.seq (.reg [⟨.l 1, .a (.box), [.l 0], none, 0, 0⟩, ⟨.l 2, .a (.alloc [(.int .i64 0), (.int .i64 0), (.int .i64 0), (.str 0 0), (.str 0 0), (.int .i64 0), .nils, (.str 0 0), (.int .i64 0)]), [], none, 0, 0⟩, ⟨.l 3, .p (.mv), [.c (.bool false)], none, 0, 0⟩])
 (.seq (.reg [⟨.t 4, .p (.fa 1), [.l 1], none, 0, 0⟩, ⟨.no, .e (.store 1), [.t 4, .c (.int .i64 0)], none, 0, 0⟩])
 (.seq (.reg [⟨.t 5, .r (.load true 9), [.l 1], none, 0, 0⟩, ⟨.no, .e (.store 9), [.l 2, .t 5], none, 0, 0⟩, ⟨.l 3, .p (.mv), [.c (.bool true)], none, 0, 0⟩])
 .ret))),
 [.cell (.l 2) true 9, .tmp (.l 3)]⟩
theorem cf272_ok : compF TP Tryz.f272 = some cf272 := by kernel_rfl
def cf273 : CF := ⟨1, (.seq (.reg [⟨.l 1, .a (.box), [.l 0], none, 0, 0⟩, ⟨.l 2, .a (.alloc [(.int .i64 0), (.int .i64 0), (.int .i64 0), (.str 0 0), (.str 0 0), (.int .i64 0), .nils, (.str 0 0), (.int .i64 0)]), [], none, 0, 0⟩, ⟨.l 3, .p (.mv), [.c (.bool false)], none, 0, 0⟩])
 (.seq (.reg [⟨.t 5, .p (.fa 3), [.l 1], none, 0, 0⟩, ⟨.t 6, .r (.load false 1), [.t 5], none, 0, 0⟩, ⟨.t 7, .call 47, [.t 6], none, 0, 0⟩, ⟨.l 4, .p (.mv), [.t 7], none, 0, 0⟩])
 (.seq (.reg [⟨.t 8, .p (.fa 3), [.l 1], none, 0, 0⟩, ⟨.no, .e (.store 1), [.t 8, .c (.str 0 0)], none, 0, 0⟩])
 (.seq (.reg [⟨.t 9, .r (.load true 9), [.l 1], none, 0, 0⟩, ⟨.t 10, .p (.mv), [.l 4], none, 0, 0⟩, ⟨.no, .e (.store 9), [.l 2, .t 9], none, 0, 0⟩, ⟨.l 3, .p (.mv), [.t 10], none, 0, 0⟩])
 .ret)))),
 [.cell (.l 2) true 9, .tmp (.l 3)]⟩
theorem cf273_ok : compF TP Tryz.f273 = some cf273 := by kernel_rfl
def cf280 : CF := ⟨2, (.seq (.reg [⟨.l 2, .a (.box), [.l 0], none, 0, 0⟩, ⟨.l 3, .a (.box), [.l 1], none, 0, 0⟩, ⟨.l 4, .p (.mv), [.c (.bool false)], none, 0, 0⟩])
 (.seq (.reg [⟨.t 5, .p (.fa 0), [.l 2], none, 0, 0⟩, ⟨.t 6, .r (.load false 1), [.t 5], none, 0, 0⟩, ⟨.t 7, .p (.fa 0), [.l 3], none, 0, 0⟩, ⟨.t 8, .r (.load false 1), [.t 7], none, 0, 0⟩, ⟨.t 9, .p (.bin .eql), [.t 6, .t 8], none, 0, 0⟩, ⟨.t 10, .p (.mv), [.t 9], none, 0, 0⟩, ⟨.t 11, .p (.fa 1), [.l 2], (some (.t 10, true)), 0, 0⟩, ⟨.t 12, .r (.load false 1), [.t 11], (some (.t 10, true)), 0, 0⟩, ⟨.t 13, .p (.fa 1), [.l 3], (some (.t 10, true)), 0, 0⟩, ⟨.t 14, .r (.load false 1), [.t 13], (some (.t 10, true)), 0, 0⟩, ⟨.t 15, .p (.bin .eql), [.t 12, .t 14], (some (.t 10, true)), 0, 0⟩, ⟨.t 16, .p (.pick), [.t 10, .t 15, .c (.bool false)], none, 0, 0⟩, ⟨.t 17, .p (.mv), [.t 16], none, 0, 0⟩, ⟨.t 18, .p (.fa 2), [.l 2], (some (.t 17, true)), 0, 0⟩, ⟨.t 19, .r (.load false 1), [.t 18], (some (.t 17, true)), 0, 0⟩, ⟨.t 20, .p (.fa 2), [.l 3], (some (.t 17, true)), 0, 0⟩, ⟨.t 21, .r (.load false 1), [.t 20], (some (.t 17, true)), 0, 0⟩, ⟨.t 22, .p (.bin .eql), [.t 19, .t 21], (some (.t 17, true)), 0, 0⟩, ⟨.t 23, .p (.pick), [.t 17, .t 22, .c (.bool false)], none, 0, 0⟩, ⟨.t 24, .p (.mv), [.t 23], none, 0, 0⟩, ⟨.t 25, .p (.fa 3), [.l 2], (some (.t 24, true)), 0, 0⟩, ⟨.t 26, .r (.load false 1), [.t 25], (some (.t 24, true)), 0, 0⟩, ⟨.t 27, .p (.fa 3), [.l 3], (some (.t 24, true)), 0, 0⟩, ⟨.t 28, .r (.load false 1), [.t 27], (some (.t 24, true)), 0, 0⟩, ⟨.t 29, .p (.bin .eql), [.t 26, .t 28], (some (.t 24, true)), 0, 0⟩, ⟨.t 30, .p (.pick), [.t 24, .t 29, .c (.bool false)], none, 0, 0⟩, ⟨.t 31, .p (.mv), [.t 30], none, 0, 0⟩, ⟨.t 32, .p (.fa 4), [.l 2], (some (.t 31, true)), 0, 0⟩, ⟨.t 33, .r (.load false 1), [.t 32], (some (.t 31, true)), 0, 0⟩, ⟨.t 34, .p (.fa 4), [.l 3], (some (.t 31, true)), 0, 0⟩, ⟨.t 35, .r (.load false 1), [.t 34], (some (.t 31, true)), 0, 0⟩, ⟨.t 36, .p (.bin .eql), [.t 33, .t 35], (some (.t 31, true)), 0, 0⟩, ⟨.t 37, .p (.pick), [.t 31, .t 36, .c (.bool false)], none, 0, 0⟩, ⟨.t 38, .p (.mv), [.t 37], none, 0, 0⟩, ⟨.t 39, .p (.fa 5), [.l 2], (some (.t 38, true)), 0, 0⟩, ⟨.t 40, .r (.load false 1), [.t 39], (some (.t 38, true)), 0, 0⟩, ⟨.t 41, .p (.fa 5), [.l 3], (some (.t 38, true)), 0, 0⟩, ⟨.t 42, .r (.load false 1), [.t 41], (some (.t 38, true)), 0, 0⟩, ⟨.t 43, .p (.bin .eql), [.t 40, .t 42], (some (.t 38, true)), 0, 0⟩, ⟨.t 44, .p (.pick), [.t 38, .t 43, .c (.bool false)], none, 0, 0⟩, ⟨.t 45, .p (.mv), [.t 44], none, 0, 0⟩, ⟨.t 46, .p (.fa 7), [.l 2], (some (.t 45, true)), 0, 0⟩, ⟨.t 47, .r (.load false 1), [.t 46], (some (.t 45, true)), 0, 0⟩, ⟨.t 48, .p (.fa 7), [.l 3], (some (.t 45, true)), 0, 0⟩, ⟨.t 49, .r (.load false 1), [.t 48], (some (.t 45, true)), 0, 0⟩, ⟨.t 50, .p (.bin .eql), [.t 47, .t 49], (some (.t 45, true)), 0, 0⟩, ⟨.t 51, .p (.pick), [.t 45, .t 50, .c (.bool false)], none, 0, 0⟩, ⟨.t 52, .p (.mv), [.t 51], none, 0, 0⟩, ⟨.t 53, .p (.fa 8), [.l 2], (some (.t 52, true)), 0, 0⟩, ⟨.t 54, .r (.load false 1), [.t 53], (some (.t 52, true)), 0, 0⟩, ⟨.t 55, .p (.fa 8), [.l 3], (some (.t 52, true)), 0, 0⟩, ⟨.t 56, .r (.load false 1), [.t 55], (some (.t 52, true)), 0, 0⟩, ⟨.t 57, .p (.bin .eql), [.t 54, .t 56], (some (.t 52, true)), 0, 0⟩, ⟨.t 58, .p (.pick), [.t 52, .t 57, .c (.bool false)], none, 0, 0⟩, ⟨.t 59, .p (.mv), [.t 58], none, 0, 0⟩, ⟨.t 60, .p (.fa 6), [.l 2], (some (.t 59, true)), 0, 0⟩, ⟨.t 61, .r (.load false 1), [.t 60], (some (.t 59, true)), 0, 0⟩, ⟨.t 62, .p (.fa 6), [.l 3], (some (.t 59, true)), 0, 0⟩, ⟨.t 63, .r (.load false 1), [.t 62], (some (.t 59, true)), 0, 0⟩, ⟨.t 64, .call 337, [.t 61, .t 63, .c (.func (.func 280) [] [])], (some (.t 59, true)), 0, 0⟩, ⟨.t 65, .p (.pick), [.t 59, .t 64, .c (.bool false)], none, 0, 0⟩, ⟨.l 4, .p (.mv), [.t 65], none, 0, 0⟩])
 .ret)),
 [.tmp (.l 4)]⟩
theorem cf280_ok : compF TP Tryz.f280 = some cf280 := by kernel_rfl
end
end Ev
end Go.Proofs.YtbfkbabolhhbaaaGreatDoor
